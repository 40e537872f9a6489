
import Derived.Test.YtcnmnmjmpocepaaGreatDoorV05
import Derived.Test.YtcnmnmjmpocepaaGreatDoorV04
import Derived.Sort.Grow
set_option linter.unusedVariables false
set_option linter.unusedSimpArgs false
set_option linter.unusedSectionVars false
set_option maxRecDepth 100000
set_option maxHeartbeats 16000000
section
namespace Go.SL
inductive Sg
  |q (l:List Nat)
  |f (l:List Nat)
  |r (l:List Nat)
  |an (i:Nat)
  |rv (i:Nat)
  |h (c:Bool) (m:Nat)
  |fi (i j:Nat)
def Sg.GZ:Sg->List It
  | .q l=>l.map It.q
  | .f l=>l.map It.f
  | .r l=>l.map It.r
  | .an i=> [.an i]
  | .rv i=> [.rv i]
  | .h c m=> [.h c m]
  | .fi i j=> [.fi i j]
def XS:List Sg->List It
  | []=> []
  |s::r=>s.GZ++XS r
abbrev ML:=List (Nat×Nat×Int×Value)
def RL:ML->En
  | []=>fun _=>none
  |(i,j,z,v)::r=>Rt (RL r) i (j,.int .i64,.int .i64 z,v)
def D0(P:Program)(r:Option Nat)(F:CA)(n:Nat)(all:Array Oper)(Dk:List CA)(Q:DD)(ds:List Deferred):List Sg->Env->List CA->An->ML->Prop
  | [],env,own,_,_=>Q .normal env own ds
  | .q l::s,env,own,an,ml=>Oy P F n all own (fun env'=>D0 P r F n all Dk Q ds s env' own an ml) l env
  | .f l::s,env,own,an,ml=>Oy P emp n all [] (fun env'=>D0 P r F n all Dk Q ds s env' own an ml) l env
  | .r l::s,env,own,an,ml=>Oy P F n all Dk (fun env'=>D0 P r F n all Dk Q ds s env' own an ml) l env
  | .an i::s,env,own,an,ml=>∃o vf ob,all[i]?=some o/\C6 all env o=some true/\Mh P n o env vf ob/\D0 P r F n all Dk Q ds s env own (UX an i (vf,ob)) ml
  | .rv i::s,env,own,an,ml=>∃vf ob,an i=some (vf,ob)/\∀b Zu,Pb (Gb (RL ml) (fun _=>true) all.size i) ob Zu->D0 P r F n all Dk Q ds s (IE all i (vf b) env) (CV b Zu::own) an ml
  | .fi i j::s,env,own,an,ml=>∃z v,dU P all env an (RL ml) i j (.int .i64) (.int .i64 z) v/\D0 P r F n all Dk Q ds s env own an ((i,j,z,v)::ml)
  | .h c m::s,env,own,an,ml=>∃o IN F6 R Z,all[m]?=some o/\own.Perm (IN++F6)/\((C6 all env o=some true/\dW P IN n o env R Z)∨(C6 all env o=some false/\EX o.op=true/\R undef IN))/\
      (c=false->∀v own',R v own'->∃N,own'.Perm (IN++N))/\(c=true->(∃Y,F6.Perm (Dk++Y))∨OP all m=true)/\(∀v own',R v own'->D0 P r F n all Dk Q ds s (IE all m v env) (own'++F6) an ml)/\∀ch own',Z ch own'->Q (.panic ch) [] (own'++F6) ds
def noMap:Obj->Bool
  | .map .. =>false
  |_=>true
theorem noMap_fin{j5:List (Value×Value)}{ob o:Obj}(h:noMap ob=true)(hf:Pb j5 ob o):o=ob:=by
  unfold Pb at hf
  split at hf
  · cases h
  · exact hf
section
variable {P:Program} {r:Option Nat} {F:CA} {n:Nat} {Dk:List CA} {Q:DD} {env:Env} {own rest hs IN F6:List CA} {ds:List Deferred} {all:Array Oper} {s:List Sg} {o:Oper} {id:Nat} {an:An} {ml:ML}
theorem Uc{K:Env->List CA->Prop}{Kz:List PanicEntry->List CA->Prop}{F1:CA}{own1:List CA}{it:Nat->It}{own:List CA}{an:An}{en:En}(jR:∀i rr env o v,all[i]?=some o->Ky P F1 n all own1 env o v->Jh P F n all Dk K Kz rr (IE all i v env) own an en->Jh P F n all Dk K Kz (it i::rr) env own an en)
    {rr:List It}:∀ {l:List Nat} {env:Env},Oy P F1 n all own1 (fun env'=>Jh P F n all Dk K Kz rr env' own an en) l env->Jh P F n all Dk K Kz (l.map it++rr) env own an en:=by
  intro l;induction l with
  |nil=>intro env h;exact h
  | cons i l ih=>
    intro env h;simp only [Oy] at h
    obtain⟨o,v,h1,h2,h3,h4⟩:=h;refine jR i _ env o v h1 ⟨h2,h3⟩ (ih ?_);have:IE all i v env=(match o.dst with|some d=>(d,v)::env|none=>env):=by simp only [IE,h1,Option.bind_some] <;>cases o.dst <;>rfl
    rw [this];exact h4
theorem dM:∀ {s:List Sg} {env:Env} {own:List CA} {an:An} {ml:ML},D0 P r F n all Dk Q ds s env own an ml->Jh P F n all Dk (fun env own=>Q .normal env own ds) (fun ch own=>Q (.panic ch) [] own ds) (XS s) env own an (RL ml):=by
  intro s;induction s with
  |nil=>intro env own an ml h;exact h
  | cons x s ih=>
    intro env own an ml h;cases x with
    |q l=>exact Uc (it:=It.q) (own1:=own) (F1:=F) (fun i rr env o v h1 h2 h3=>⟨o,v,h1,h2,h3⟩) (N4 (fun env h=>ih h) h)
    |f l=>exact Uc (it:=It.f) (fun i rr env o v h1 h2 h3=>⟨o,v,h1,h2,h3⟩) (N4 (fun env h=>ih h) h)
    |r l=>exact Uc (it:=It.r) (fun i rr env o v h1 h2 h3=>⟨o,v,h1,h2,h3⟩) (N4 (fun env h=>ih h) h)
    | an i=>
      obtain⟨o,vf,ob,h1,h2,h3,h4⟩:=h;exact⟨o,vf,ob,h1,h2,h3,ih h4⟩
    | rv i=>
      obtain⟨vf,ob,h1,h2⟩:=h;exact⟨vf,ob,h1,fun b Zu hf=>ih (h2 b Zu hf)⟩
    | fi i j=>
      obtain⟨z,v,h1,h2⟩:=h;exact⟨_,_,_,h1,ih h2⟩
    | h c m=>
      obtain⟨o,IN,F6,R,Z,h1,h2,h3,h5,h7,h6,h8⟩:=h;exact⟨o,IN,F6,R,Z,h1,h2,h3,h5,h7,fun v own' hR=>ih (h6 v own' hR),h8⟩
theorem C0(s:List Sg)(Dk:List CA) [tp:Dx own Dk rest]{ops:Array Oper}(Ht:ZZ ops=true)(l6:P.follows .mixedOrders=true)(ZN:Yv ops (XS s)=true)(O6:mq ops n=true)
    (h:D0 P r F n ops Dk Q ds s env own (fun _=>none) []):DI P r F n (.region id ops true) Q env own ds:=
  Y8 Dk ⟨rest,tp.perm⟩ Ht l6 ZN (ZY O6) (dM h)
theorem C5(h:Q .normal env own ds):D0 P r F n all Dk Q ds [] env own an ml:=h
theorem Dd{l:List Nat}{A:List Oper}(hA:P2 all l=some A)(h:DE true P r F n all A (Re (fun Ll _ _=>D0 P r F n all Dk Q ds s Ll own an ml) (fun _ _ _ _=>False)) env own ds):D0 P r F n all Dk Q ds (.q l::s) env own an ml:=
  h l (P1 hA)
theorem Fq{l:List Nat}{A:List Oper}(hA:P2 all l=some A)(h:DE true P r emp n all A (Re (fun Ll _ _=>D0 P r F n all Dk Q ds s Ll own an ml) (fun _ _ _ _=>False)) env [] ds):D0 P r F n all Dk Q ds (.f l::s) env own an ml:=
  h l (P1 hA)
theorem HW{l:List Nat}{A:List Oper}(hA:P2 all l=some A)(h:DE true P r F n all A (Re (fun Ll _ _=>D0 P r F n all Dk Q ds s Ll own an ml) (fun _ _ _ _=>False)) env Dk ds):D0 P r F n all Dk Q ds (.r l::s) env own an ml:=
  h l (P1 hA)
theorem DN{i d:Nat}{vf:Nat->Value}{ob:Obj}(hi:all[i]?=some o)(hd:o.dst=some d)(ha:an i=some (vf,ob))(h:∀b,D0 P r F n all Dk Q ds s ((d,vf b)::env) (CV b ob::own) an ml)(hm:noMap ob=true:=by rfl):D0 P r F n all Dk Q ds (.rv i::s) env own an ml:=by
  refine⟨vf,ob,ha,fun b Zu hf=> ?_⟩;have:IE all i (vf b) env=(d,vf b)::env:=by simp only [IE,hi,Option.bind_some,hd]
  rw [this,noMap_fin hm hf];exact h b
theorem Dn{i:Nat}{vf:Nat->Value}{ob:Obj}(hi:all[i]?=some o)(hg:C6 all env o=some true)(hn:Mh P n o env vf ob)(h:D0 P r F n all Dk Q ds s env own (UX an i (vf,ob)) ml):D0 P r F n all Dk Q ds (.an i::s) env own an ml:=
  ⟨o,vf,ob,hi,hg,hn,h⟩
theorem OX{c:Bool}{m d:Nat}{R:Value->List CA->Prop}(hi:all[m]?=some o)(hd:o.dst=some d)(hg:C6 all env o=some true) [t:Dx own hs rest](RG:Et P hs n o env R)
    (jS:c=false->∀v own',R v own'->∃N,own'.Perm (hs++N)) (lR:c=true->(∃Y,rest.Perm (Dk++Y))∨OP all m=true) (h:∀v own',R v own'->∃Dp,IT own' rest=some Dp/\D0 P r F n all Dk Q ds s ((d,v)::env) Dp an ml):D0 P r F n all Dk Q ds (.h c m::s) env own an ml:=by
  refine⟨o,hs,rest,R,fun _ _=>False,hi,t.perm,.inl ⟨hg,Et.z RG⟩,jS,lR,fun v own' hR=> ?_,fun _ _ h=>h.elim⟩;obtain⟨Dp,e2,h2⟩:=h v own' hR;have:IE all m v env=(d,v)::env:=by simp only [IE,hi,Option.bind_some,hd]
  rw [this,<-Gd e2];exact h2
theorem Ua{c:Bool}{m:Nat}{R:Value->List CA->Prop}(hi:all[m]?=some o)(hd:o.dst=none)(hg:C6 all env o=some true) [t:Dx own hs rest](RG:Et P hs n o env R)
    (jS:c=false->∀v own',R v own'->∃N,own'.Perm (hs++N)) (lR:c=true->(∃Y,rest.Perm (Dk++Y))∨OP all m=true) (h:∀v own',R v own'->∃Dp,IT own' rest=some Dp/\D0 P r F n all Dk Q ds s env Dp an ml):D0 P r F n all Dk Q ds (.h c m::s) env own an ml:=by
  refine⟨o,hs,rest,R,fun _ _=>False,hi,t.perm,.inl ⟨hg,Et.z RG⟩,jS,lR,fun v own' hR=> ?_,fun _ _ h=>h.elim⟩;obtain⟨Dp,e2,h2⟩:=h v own' hR;have:IE all m v env=env:=by simp only [IE,hi,Option.bind_some,hd]
  rw [this,<-Gd e2];exact h2
theorem NC{c:Bool}{m d:Nat} [tp:Dx own Dk rest](hi:all[m]?=some o)(hd:o.dst=some d)(hg:C6 all env o=some false)(hp:EX o.op=true)(h:D0 P r F n all Dk Q ds s ((d,undef)::env) own an ml):D0 P r F n all Dk Q ds (.h c m::s) env own an ml:=by
  refine⟨o,[],own,fun v own'=>v=undef/\own'= [],fun _ _=>False,hi,List.Perm.refl _,.inr ⟨hg,hp,rfl,rfl⟩,?_,fun _=> .inl ⟨rest,tp.perm⟩,?_,fun _ _ h=>h.elim⟩
  · rintro - v own' ⟨rfl,rfl⟩;exact⟨[],List.Perm.refl _⟩
  · rintro v own' ⟨rfl,rfl⟩;have:IE all m undef env=(d,undef)::env:=by simp only [IE,hi,Option.bind_some,hd]
    rw [this];exact h
theorem J1{t:TypeId}{de:TypeDesc}{z:Value}{ti:TypeInfo}{cs:List Value} [ty:Ty P t de z ti](ho:o.op= .alloc t)(hz:EA z=some cs):
    Mh P n o env (fun b=> .pointer (some ⟨b,0,none⟩)) (.cells ⟨cs⟩ t (0,0)):=
  ⟨by rw [ho];rfl,fun _=>by simp [Pt],fun a w _=>by simp [execOp,ho,Instr.alloc,ty.z,newVar,newRow,Fg hz]⟩
theorem FU{t e:TypeId}{sz bytes len:Nat}{ps:Array (Nat×Operand)}{qs:List (Nat×Value)}{zv:Value}{zc zs cs:List Value}{de:TypeDesc}{ti:TypeInfo} [g:NI P t e sz bytes] [z:Ty P e de zv ti]
    (ho:o.op= .buildSlice t len ps) (hp:T7 env ps.toList=some qs)
    (Sq:EA zv=some zc) (Vv:zc.length=sz) (hz:WB len zc=some zs) (hb:Lp (fun i=>some (i*sz,sz)) zs qs=some cs) (Qv:Nat.ble (len*sz) 16777216=true):
    Mh P n o env (fun b=> .slice (some ⟨b,0,none⟩) len len) (.cells ⟨cs⟩ e (0,0)):=by
  refine⟨by rw [ho];rfl,fun _=>by simp [Pt],fun A w hA=> ?_⟩;obtain⟨i,z',g1,g2,g3,g4,g5,g6⟩:=g.all;have e1:(ps.map fun(p:Nat×Operand)=>(p.1,A.eval p.2))=(⟨qs⟩:Array (Nat×Value)):=Array.ext' (by simpa using Oo hA hp);have hbig':¬16777216<len*sz:=by have:=Nat.le_of_ble_eq_true Qv;omega
  have hzr:=X3 zc len;rw [hz] at hzr
  simp only [Option.some.injEq] at hzr
  have hfill:=fill_eq hb;have Hs:(sizeOf e).run P w= .ok sz w:=by rw [Ej g2,g5]
  have hzero:((Array.range (len*sz)).map fun j=>(⟨zc⟩:Array Value)[j%(⟨zc⟩:Array Value).size]!)=⟨zs⟩:=by
    apply Array.ext';apply List.ext_getElem?;intro j;have Wt:(⟨zc⟩:Array Value).size=sz:=Vv;rw [Wt];by_cases hj:j<len*sz
    · have hszpos:0<sz:=Nat.pos_of_ne_zero fun e=>by rw [e] at hj;simp at hj
      have hm:j%sz<zc.length:=by rw [Vv];exact Nat.mod_lt _ hszpos
      rw [hzr,X4 zc len j (by rw [Vv];exact hj),Vv];simp [hj,hm]
    · rw [hzr,List.getElem?_eq_none As,List.getElem?_eq_none (by simp [Vv];omega)]
  simp only [execOp,ho];rw [show(ps.map fun(x:Nat×Operand)=>match x with|(i,x)=>(i,A.eval x))=(⟨qs⟩:Array (Nat×Value)) from e1];by_cases h0:len*sz=0
  · have iu:zs= []:=by
      have:zs.length=len*sz:=by rw [hzr];simp [Vv]
      rw [h0] at this;exact List.length_eq_zero_iff.1 this
    rw [iu] at hfill
    have Sy:(Array.range 0).map (fun(_:Nat)=>(default:Value))=⟨[]⟩:=by simp
    simp [Instr.buildSlice,Di g1,Hs,h0,Sy,hfill,newRow]
  · have hc:=Fg Sq;have hzero':((Array.range (len*sz)).map fun j=>zv.cells[j%zv.cells.size]!)=⟨zs⟩:=by rw [hc];exact hzero
    simp [Instr.buildSlice,Di g1,Hs,h0,hbig',z.z,hzero',hfill,newRow]
theorem iG{c:Call}{x:Operand}{f:FuncId}{first captured:Array Value}{vs FI:List Value}{hs:List CA}{R:Ending->List CA->Prop} [Enters P f]
    (ho:o.op= .call c) (hc:c.callee= .value x) (hx:ev env x=some (.func (.func f) first captured)) (Ko:OW env c.args.toList=some vs)
    (Fp:Lq first.toList vs captured.toList=some FI) (h:T P f FI hs R) (jH:∀(e:Ending) (own':List CA),R e own'->∃v,e= .returned v):
    Et P hs n o env fun v own'=>R (.returned v) own':=
  Vx ho hc hx Ko Fp (h.mono fun e own' hR=>by obtain⟨v,rfl⟩:=jH e own' hR;exact⟨v,rfl,hR⟩)
theorem lS{c:Call}{x:Operand}{f:FuncId}{first captured:Array Value}{vs FI:List Value}{hs:List CA}{v:Value} [Enters P f]
    (ho:o.op= .call c) (hc:c.callee= .value x) (hx:ev env x=some (.func (.func f) first captured)) (Ko:OW env c.args.toList=some vs)
    (Fp:Lq first.toList vs captured.toList=some FI) (h:Dw P f FI hs v):
    Et P hs n o env fun v' own'=>v'=v/\own'=hs:=
  Vx ho hc hx Ko Fp (h.mono fun e own' ⟨h1,h2⟩=>⟨v,h1,rfl,h2⟩)
theorem Sv{t T:TypeId}{x y:Operand}{b off:Nat}{v:Value}{cs vs cs':List Value}{d:TypeDesc}{z:Value}{ti:TypeInfo} [ty:Ty P t d z ti]
    (ho:o.op= .store t x y) (hx:ev env x=some (.pointer (some ⟨b,off,none⟩))) (hy:ev env y=some v)
    (hv:EA v=some vs) (Hs:vs.length=ti.size) (h1:vs.all (·.oneCell')=true) (hc:F5 cs off vs=some cs'):
    Et P [CV b (.cells ⟨cs⟩ T (0,0))] n o env fun _ own'=>own'= [CV b (.cells ⟨cs'⟩ T (0,0))]:=by
  refine⟨by rw [ho];rfl,fun a w X ha hs=> ?_⟩;obtain⟨g1,g2⟩:=Ml hc;have s1:Sat (CV b (.cells ⟨cs⟩ T (0,0))::X) w:=by simpa using hs
  have hb:w.heap[b]?=some (.cells ⟨cs⟩ T (0,0)):=s1.at (List.mem_cons_self ..) (Dq _ _);have Gy:=run_storeCells_at P b off T vs 0 ⟨cs⟩ w hb (by simpa using g2) (by simpa using h1);have LU:((⟨cs⟩:Array Value).toList.take (off+0)++vs++(⟨cs⟩:Array Value).toList.drop (off+0+vs.length)).toArray=⟨cs'⟩:=by rw [g1];rfl
  rw [LU] at Gy
  have ZT:=Fg hv;have FE:(execOp a.eval o).run P w= .ok .skip (w.setRow b ⟨cs'⟩):=by
    simp [execOp,ho,Instr.storeAt,ha.eval hx,ha.eval hy,Instr.sureAddr,storeVar,Ej ty.i,ZT,Hs,Gy]
  refine⟨w.setRow b ⟨cs'⟩,.inr (.inl ⟨_,FE,?_,rfl⟩)⟩;have s2:=s1.put (setRow_heap w b _ ⟨cs'⟩ T (0,0) hb) Av Av (fun k hk=>setRow_other w b k _ hk) (fun _=>rfl);simpa using s2
theorem Qt{t e:TypeId}{sz bytes:Nat}{c:Call}{x y:Operand}{h hn:CA}{base:Option Addr}{len cap m mc:Nat}{cs news:List Value}{a:Addr} [g:NI P t e sz bytes]
    (ho:o.op= .call c) (hc:c.callee= .builtin .append) (Jc:c.args= #[x,y]) (FD:c.argTypes= #[t,t])
    (hx:ev env x=some (.slice base len cap)) (hy:ev env y=some (.slice (some a) m mc)) (mm:Sl hn (some a) news) (os:OS h base len cap e sz cs)
    (hm:0<m) (Gt:news.length=m*sz) (GJ:0<sz) (h1:news.all (·.oneCell')=true) (FJ:(len+m)*bytes≤70368744177664) (hlen:len+m≤70368744177664):
    Et P [h,hn] n o env fun v own'=>∃h' D6 FA,v= .slice D6 (len+m) FA/\own'= [h',hn]/\OS h' D6 (len+m) FA e sz (cs++news):=by
  refine⟨by rw [ho];rfl,fun A w X hA hs=> ?_⟩;obtain⟨i,z,g1,g2,g3,g4,g5,g6⟩:=g.all;subst g5;subst g6;have s2:Sat (h::hn::X) w:=by simpa using hs
  have Kr:∀j v,news[j]?=some v->w.cell? (a.add j)=some v:=fun j v hj=>by
    have mi:Ds [h,hn] (some a) news:=⟨hn,by simp,mm⟩;obtain⟨a',e1,e2,e3⟩:=mi.cell hs hj;cases e1;obtain⟨b,off,sp⟩:=a;simp only at e2
    subst e2;rw [Es];exact e3
  obtain⟨h',D6,FA,w',FE,HS,s3⟩:=PS (P:=P) (ty:=o.type) (c:=mc) g1 g2 g3 g4 os s2 hm Gt Kr (by simpa using h1) FJ hlen;refine⟨w',.inl ⟨.slice D6 (len+m) FA,[h',hn],?_,by simpa using s3,h',D6,FA,rfl,rfl,HS⟩⟩;simp [execOp,ho,resolve,hc,Jc,FD,invoke,builtin,hA.eval hx,hA.eval hy,FE]
theorem Lg{R:Value->List CA->Prop}{hs:List CA}:true=false->∀v own',R v own'->∃N,own'.Perm (hs++N):=fun h=>by cases h
theorem IJ{m d:Nat}{cl:Call}{x:Operand}{f:FuncId}{first captured:Array Value}{vs FI:List Value}{v:Value} [Enters P f]
    (hi:all[m]?=some o) (hd:o.dst=some d) (hg:C6 all env o=some true) [t:Dx own hs rest]
    (ho:o.op= .call cl) (hc:cl.callee= .value x) (hx:ev env x=some (.func (.func f) first captured)) (Ko:OW env cl.args.toList=some vs)
    (Fp:Lq first.toList vs captured.toList=some FI) (hp:Dw P f FI hs v) {Dp:List CA} (h2:IT hs rest=some Dp) (h:D0 P r F n all Dk Q ds s ((d,v)::env) Dp an ml):D0 P r F n all Dk Q ds (.h false m::s) env own an ml:=
  OX hi hd hg (lS ho hc hx Ko Fp hp) (fun _ v own' hR=>⟨[],by rw [hR.2];simp⟩) (fun h=>by cases h) fun v' own' hR=>by
    obtain⟨rfl,rfl⟩:=hR;exact⟨Dp,h2,h⟩
theorem Ev{m d:Nat}{cl:Call}{x:Operand}{f:FuncId}{first captured:Array Value}{vs FI:List Value}{R:Ending->List CA->Prop} [Enters P f]
    (hi:all[m]?=some o) (hd:o.dst=some d) (hg:C6 all env o=some true) [t:Dx own hs rest]
    (ho:o.op= .call cl) (hc:cl.callee= .value x) (hx:ev env x=some (.func (.func f) first captured)) (Ko:OW env cl.args.toList=some vs)
    (Fp:Lq first.toList vs captured.toList=some FI) (hp:T P f FI hs R) (jS:∀(e:Ending) (own':List CA),R e own'->∃N,own'=hs++N)
    (h:∀(e:Ending) (own':List CA),R e own'->∃v Dp,e= .returned v/\IT own' rest=some Dp/\D0 P r F n all Dk Q ds s ((d,v)::env) Dp an ml):D0 P r F n all Dk Q ds (.h false m::s) env own an ml:=
  OX hi hd hg (iG ho hc hx Ko Fp hp fun e own' hR=>by obtain⟨v,_,h1,_⟩:=h e own' hR;exact⟨v,h1⟩)
    (fun _ v own' hR=>by obtain⟨N,rfl⟩:=jS _ _ hR;exact⟨N,List.Perm.refl _⟩) (fun h=>by cases h) fun v own' hR=>by
    obtain⟨v',Dp,h1,h2,h3⟩:=h _ own' hR;cases h1;exact⟨Dp,h2,h3⟩
theorem Df{m:Nat}{t T:TypeId}{x y:Operand}{b off:Nat}{v:Value}{cs vs cs':List Value}{d:TypeDesc}{z:Value}{ti:TypeInfo} [ty:Ty P t d z ti]
    (hi:all[m]?=some o) (hd:o.dst=none) (hg:C6 all env o=some true) (ho:o.op= .store t x y) (hx:ev env x=some (.pointer (some ⟨b,off,none⟩))) (hy:ev env y=some v)
    (hv:EA v=some vs) (Hs:vs.length=ti.size) (h1:vs.all (·.oneCell')=true) [at_:At own b (.cells ⟨cs⟩ T (0,0))] (hc:F5 cs off vs=some cs') [tk:Dx own [CV b (.cells ⟨cs⟩ T (0,0))] rest] {GB:List CA} [tp:Dx rest Dk GB]
    (h:D0 P r F n all Dk Q ds s env (CV b (.cells ⟨cs'⟩ T (0,0))::rest) an ml):D0 P r F n all Dk Q ds (.h true m::s) env own an ml:=
  Ua hi hd hg (Sv ho hx hy hv Hs h1 hc) Lg (fun _=> .inl ⟨GB,tp.perm⟩) fun v' own' hR=>by
    subst hR;exact⟨_,rfl,h⟩
theorem Gc{m:Nat}{t T:TypeId}{x y:Operand}{b off:Nat}{v:Value}{cs vs cs':List Value}{d:TypeDesc}{z:Value}{ti:TypeInfo} [ty:Ty P t d z ti]
    (hi:all[m]?=some o) (hl:OP all m=true) (hd:o.dst=none) (hg:C6 all env o=some true) (ho:o.op= .store t x y) (hx:ev env x=some (.pointer (some ⟨b,off,none⟩))) (hy:ev env y=some v)
    (hv:EA v=some vs) (Hs:vs.length=ti.size) (h1:vs.all (·.oneCell')=true) [at_:At own b (.cells ⟨cs⟩ T (0,0))] (hc:F5 cs off vs=some cs') [tk:Dx own [CV b (.cells ⟨cs⟩ T (0,0))] rest]
    (h:D0 P r F n all Dk Q ds s env (CV b (.cells ⟨cs'⟩ T (0,0))::rest) an ml):D0 P r F n all Dk Q ds (.h true m::s) env own an ml:=
  Ua hi hd hg (Sv ho hx hy hv Hs h1 hc) Lg (fun _=> .inr hl) fun v' own' hR=>by
    subst hR;exact⟨_,rfl,h⟩
class gU (own:List CA) (base:Option Addr) (h:outParam CA) (cs:outParam (List Value)):Prop where
  sl:Sl h base cs
instance gU.head{h:CA}{r:List CA}{base:Option Addr}{cs:List Value} [t:Sl h base cs]:gU (h::r) base h cs:=⟨t⟩
theorem FP{m:Nat}{t e:TypeId}{sz bytes:Nat}{cl:Call}{x y:Operand}{hh hn:CA}{base:Option Addr}{len cap mm mc d:Nat}{cs news:List Value}{a:Addr} [g:NI P t e sz bytes]
    (hi:all[m]?=some o) (hd:o.dst=some d) (hg:C6 all env o=some true)
    (ho:o.op= .call cl) (hc:cl.callee= .builtin .append) (Jc:cl.args= #[x,y]) (FD:cl.argTypes= #[t,t])
    (hx:ev env x=some (.slice base len cap)) (hy:ev env y=some (.slice (some a) mm mc)) [sa:gU own (some a) hn news] (os:OS hh base len cap e sz cs) [tk:Dx own [hh,hn] rest] {GB:List CA} [tp:Dx rest Dk GB]
    (hm:0<mm) (Gt:news.length=mm*sz) (GJ:0<sz) (h1:news.all (·.oneCell')=true) (FJ:(len+mm)*bytes≤70368744177664) (hlen:len+mm≤70368744177664)
    (h:∀h' D6 FA,OS h' D6 (len+mm) FA e sz (cs++news)->D0 P r F n all Dk Q ds s ((d,.slice D6 (len+mm) FA)::env) (h'::hn::rest) an ml):D0 P r F n all Dk Q ds (.h true m::s) env own an ml:=
  OX hi hd hg (Qt ho hc Jc FD hx hy sa.sl os hm Gt GJ h1 FJ hlen) Lg (fun _=> .inl ⟨GB,tp.perm⟩) fun v own' hR=>by
    obtain⟨h',b',c',rfl,rfl,HS⟩:=hR;exact⟨_,rfl,h h' b' c' HS⟩
end
section
variable {P:Program} {own:List CA} {n:Nat} {env:Env} {o:Oper}
end
end Go.SL
end
section
namespace Go.SL
open Go.RowKit Go.ChangeShapes Go.WideShapes
theorem mapM_mem{α β:Type}{f:α->Option β}:∀ {l:List α} {r:List β},l.mapM f=some r->∀x∈l,∃y,f x=some y
  | [],_,_,x,hx=>by cases hx
  | a ::l,r,h,x,hx=>by
    rw [List.mapM_cons] at h
    cases h1:f a with
    |none=>rw [h1] at h;simp at h
    | some y=>
      rw [h1] at h
      cases h2:l.mapM f with
      |none=>simp [h2] at h
      | some ys=>
        rcases List.mem_cons.1 hx with rfl|hx
        · exact⟨y,h1⟩
        · exact mapM_mem h2 x hx
theorem OE{H:Type}{enc:TypeId×Value->H}{P:Program}{w:World}{sp:Nat->Bool}{held:Bool}{t:TypeId}{fs:Array Field}{fuel m:Nat}{cs:List Value}{x:DataW H×List MemPlace}
    (ht:P.underlying t=some (.struct fs)) (hn:P.cellsOf t=m) (h:DataW.trod enc P w 0 sp held fuel t cs=some x):
    cs.length=m/\∃n,∀f∈fs.toList,∃y,DataW.trod enc P w 0 sp held n f.type ((cs.drop f.offset).take (P.cellsOf f.type))=some y:=by
  cases fuel with
  |zero=>cases h
  | succ fuel=>
    simp only [DataW.trod,ht] at h
    split at h
    · rename_i hl
      rw [hn] at hl
      refine⟨hl,fuel,?_⟩;simp only [Option.map_eq_some_iff] at h
      obtain⟨xs,hx, -⟩:=h;exact mapM_mem hx
    · cases h
theorem MV(h:Int):∃n:Nat,n<2^64/\IntKind.u64.wrap h=n:=by
  have e:IntKind.u64.wrap h=h%18446744073709551616:=by simp [IntKind.wrap,IntKind.bits,IntKind.signed]
  exact⟨(h%18446744073709551616).toNat,by omega,by omega⟩
theorem wf_u16{z:Int}(h:(Lit.int .u16 z).wf=true):0≤z/\z≤65535:=by
  have e1:IntKind.u16.min=0:=rfl;have e2:IntKind.u16.max=65535:=rfl;simp [Lit.wf,e1,e2] at h
  exact h
end Go.SL
end
section
namespace Go.SL
section
variable {P:Program} {own:List CA} {n:Nat} {env:Env} {o:Oper}
theorem Yk{c:Call}{x y:Operand}{k:IntKind}{a b:Int}(ho:o.op= .call c)(hc:c.callee= .builtin .max)(Jc:c.args= #[x,y])
    (hx:ev env x=some (.int k a)) (hy:ev env y=some (.int k b)):DG P own n o env (.int k (max a b)):=
  DC (by rw [ho];rfl) fun d w ha=>by
    have:(if a<b then b else a)=max a b:=by rw [Int.max_def];split <;>split <;>omega
    simp [execOp,ho,resolve,hc,Jc,invoke,builtin,Builtin.max_,Builtin.max2,ha.eval hx,ha.eval hy,this]
theorem WV{t e:TypeId}{base:Option Addr}{len cap:Nat}(hu:P.underlying t=some (.slice e))(w:World):(Op.equal t (.slice base len cap) (.slice none 0 0)).run P w= .ok base.isNone w:=by
  have h:(Op.equalIn 10000 t (.slice base len cap) (.slice none 0 0)).run P w= .ok base.isNone w:=by
    rw [show(10000:Nat)=9999+1 from rfl,Op.equalIn];cases base <;>simp [Di hu]
  exact h
theorem LH{t e u:TypeId}{x:Operand}{z:Value}{i:TypeInfo}{base:Option Addr}{len cap:Nat} [h1:Ty P t (.slice e) z i](ho:o.op= .binOp .eql t x (.const (.slice none 0 0)) u)(hx:ev env x=some (.slice base len cap)):DG P own n o env (.bool base.isNone):=
  DC (by rw [ho];rfl) fun c w ha=>by
    have hy:c.eval (.const (.slice none 0 0))= .slice none 0 0:=rfl;have hg:∀w,(eqGuard .eql t x (.const (.slice none 0 0)) (.slice base len cap) (.slice none 0 0)).run P w= .ok () w:=fun w=>by simp [eqGuard]
    simp only [execOp,ho,ha.eval hx,hy];simp [hg,binOp,WV h1.u]
theorem Ms{t e:TypeId}{sz:Nat}{x y m:Operand}{base:Option Addr}{len cap:Nat}{k k2:IntKind}{j i:Int} [h1:OZ P t e sz](ho:o.op= .slice t x none (some y) (some m))(hx:ev env x=some (.slice base len cap))(hy:ev env y=some (.int k j))(hm:ev env m=some (.int k2 i))
    (h0:0≤j) (hj:j≤i) (hi:i≤cap):DG P own n o env (.slice base j.toNat i.toNat):=
  DC (by rw [ho];rfl) fun a w ha=>by
    have hs:=sub_zero base i.toNat sz;unfold sub at hs
    simp only [Nat.zero_mul] at hs
    have hj':j≤(i.toNat:Int):=by omega
    simp [execOp,ho,ha.eval hx,ha.eval hy,ha.eval hm,Instr.sliceAt,Instr.slice,Instr.sliceBounds,Di h1.u,h1.s,Gm Ab hi,Gm h0 hj'];intro h;rw [if_neg Ab] at hs;exact hs
end
instance (priority:=low) Dx.refl{own:List CA}:Dx own own []:=⟨by simp⟩
instance (priority:=low) Dx.pJ{F:CA}{own:List CA}:Dx (F::own) own [F]:=⟨List.perm_append_comm (l₁:= [F]) (l₂:=own)⟩
theorem NG:∀ {l:List CA},IT l []=some l
  | []=>rfl
  |_::l=>by simp only [IT,NG (l:=l)]
theorem IC{P:Program}{t ty e:TypeId}{i:TypeInfo}{base yb:Option Addr}{len cap mc:Nat}(w:World)
    (ht:P.underlying t=some (.slice e)) (hi:P.info? e=some i) (hle:len≤cap):
    (Builtin.append_ #[t,t] ty #[.slice base len cap,.slice yb 0 mc]).run P w= .ok (.slice base len cap) w:=by
  have hf:(Builtin.firstCells i.size 0 (.slice yb 0 mc)).run P w= .ok #[] w:=by
    cases yb with
    |none=>simp [Builtin.firstCells]
    | some a=>
      have h0:(loadCells a 0).run P w= .ok #[] w:=run_loadCells_list (P:=P) w a [] (fun j v hj=>by cases hj);simp [Builtin.firstCells,h0]
  cases base with
  |none=>simp [Builtin.append_,Di ht,Ej hi,Builtin.lenOf,hle,hf]
  |some a=>simp [Builtin.append_,Di ht,Ej hi,Builtin.lenOf,hle,hf,storeCells]
section
variable {P:Program} {r:Option Nat} {F:CA} {n:Nat} {Q:DD} {env:Env} {own rest hs:List CA} {ds:List Deferred} {all:Array Oper} {l:List Oper} {o:Oper}
theorem EH{t e:TypeId}{sz bytes:Nat}{c:Call}{x y:Operand}{h:CA}{base yb:Option Addr}{len cap m mc:Nat}{cs news:List Value}{d:Nat} [g:NI P t e sz bytes]
    (hd:o.dst=some d) (hn:Nat.blt d n=true) (hg:C6 all env o=some true) (ho:o.op= .call c) (hc:c.callee= .builtin .append) (Jc:c.args= #[x,y]) (FD:c.argTypes= #[t,t])
    (hx:ev env x=some (.slice base len cap)) (hy:ev env y=some (.slice yb m mc)) [mm:Ds own yb news] (os:OS h base len cap e sz cs) [tk:Mg own h rest]
    (Gt:news.length=m*sz) (GJ:0<sz) (h1:news.all (·.oneCell')=true) (FJ:(len+m)*bytes≤70368744177664) (hlen:len+m≤70368744177664)
    (next:∀h' D6 FA,OS h' D6 (len+m) FA e sz (cs++news)->(base=none->m=0->D6=none)->DE false P r F n all l Q ((d,.slice D6 (len+m) FA)::env) (h'::rest) ds):
    DE false P r F n all (o::l) Q env own ds:=by
  rcases Nat.eq_zero_or_pos m with hm|hm
  · subst hm;have ep:news= []:=List.length_eq_zero_iff.1 Ab;subst ep;refine Jl hd hn hg (by rw [ho];rfl) fun A w hA hs=> ?_
    obtain⟨i,z,g1,g2,g3,g4,g5,g6⟩:=g.all;have s1:Sat (own++ [F]) w:=hs.perm (List.perm_append_comm (l₁:= [F]) (l₂:=own));have s2:Sat (h::(rest++ [F])) w:=s1.perm (tk.perm.append_right [F]);refine⟨_,w,h::rest,?_,s2.perm (List.perm_append_comm (l₁:=h::rest) (l₂:= [F])),next h base cap (by simpa using os) (fun hb _=>hb)⟩;simp [execOp,ho,resolve,hc,Jc,FD,invoke,builtin,hA.eval hx,hA.eval hy,IC w g1 g2 os.hle]
  · cases yb with
    | none=>
      refine Jl hd hn hg (by rw [ho];rfl) fun A w hA hs=> ?_
      have hpos':0<news.length:=by rw [Gt];exact Nat.mul_pos hm GJ
      have s1:Sat (own++ [F]) w:=hs.perm (List.perm_append_comm (l₁:= [F]) (l₂:=own));obtain⟨a',e1, -⟩:=mm.cell s1 (List.getElem?_eq_getElem hpos');cases e1
    |some a=>exact Ef hd hn hg ho hc Jc FD hx hy os hm Gt GJ h1 FJ hlen fun h' b' c' HS=>next h' b' c' HS (fun _ e=>by omega)
theorem Gg{c:Call}{x:Operand}{f:FuncId}{first captured:Array Value}{vs FI:List Value}{R:Ending->List CA->Prop} [Enters P f]{d:Nat}
    (hd:o.dst=some d) (hn:Nat.blt d n=true) (hg:C6 all env o=some true)
    (ho:o.op= .call c) (hc:c.callee= .value x) (hx:ev env x=some (.func (.func f) first captured)) (Ko:OW env c.args.toList=some vs)
    (Fp:Lq first.toList vs captured.toList=some FI) (h:T P f FI own fun e o=>∃N,o=own++N/\R e N)
    (hr:∀e N,R e N->∃v Dp,e= .returned v/\IT own N=some Dp/\DE false P r F n all l Q ((d,v)::env) Dp ds):
    DE false P r F n all (o::l) Q env own ds:=by
  haveI:Dx own own []:=⟨by simp⟩;refine CK hd hn hg ho hc hx Ko Fp h fun e own' hR=> ?_
  obtain⟨N,rfl,hR⟩:=hR;obtain⟨v,Dp,h1,h2,h3⟩:=hr e N hR;exact⟨v,Dp,h1,by rw [NG,Gd h2],h3⟩
end
theorem MH{k:CA}:∀ {own:List CA},(∀l∈own,Eo k l)->Eo k (Da own)
  | [],_=>fun b o o' _ x=>by cases x
  |q::qs,d=>GV (d q (List.mem_cons_self ..)) (MH fun l hl=>d l (List.mem_cons_of_mem _ hl))
theorem Fe:∀ {own:List CA} {h:CA},own.Pairwise Eo->h∈own->hle h (Da own)
  | [],_,_,hm=>by cases hm
  | k::own,h,d,hm=>by
    obtain⟨d1,d2⟩:=List.pairwise_cons.1 d;rcases List.mem_cons.1 hm with rfl|hm
    · exact FW
    · have hd:Eo k (Da own):=MH d1;exact(Fe d2 hm).trans (Fl hd)
theorem Sl.mono{h k:CA}{base:Option Addr}{cs:List Value}(s:Sl h base cs)(l:hle h k):Sl k base cs:=
  ⟨fun j v hj=>by obtain⟨a,arr,T,fz,h1,h2,h3,h4⟩:=s.cell j v hj;exact⟨a,arr,T,fz,h1,h2,l _ _ h3,h4⟩⟩
theorem KH{P:Program}{f:FuncId}{args:List Value}{own:List CA}{R:Ending->List CA->Prop}
    (h:∀J,(∀h∈own,hle h J)->T P f args [J] fun e o=>∃N,o=J::N/\R e N):T P f args own fun e o=>∃N,o=own++N/\R e N:=by
  intro w X s;have d:own.Pairwise Eo:=(List.pairwise_append.1 s.dj).1;refine(h (Da own) (fun k hk=>Fe d hk) w X (by simpa using s.Da)).mono ?_;rintro e w' ⟨o,s2,N,rfl,hR⟩;refine⟨own++N,?_,N,rfl,hR⟩;have:=Sat.IL d (ks:=N++X) (by simpa using s2);simpa using this
theorem JB{P:Program}{f:FuncId}{args:List Value}{own:List CA}{v:Value}(h:∀J,(∀h∈own,hle h J)->Dw P f args [J] v):Dw P f args own v:=
  (KH (R:=fun e N=>e= .returned v/\N= []) fun J hJ=>(h J hJ).mono fun e o ⟨h1,h2⟩=>⟨[],by rw [h2],h1,rfl⟩).mono fun e o ⟨N,h1,h2,h3⟩=>⟨h2,by rw [h1,h3,List.append_nil]⟩
theorem Ds.all{own:List CA}{base:Option Addr}{cs:List Value}(s:Ds own base cs){J:CA}(h:∀h∈own,hle h J):Sl J base cs:=by
  obtain⟨k,hk,e⟩:=s.mem;exact e.mono (h k hk)
theorem OS.CV{b len sz:Nat}{T:TypeId}{cs:List Value}(h:cs.length=len*sz):OS (SL.CV b (.cells ⟨cs⟩ T (0,0))) (some ⟨b,0,none⟩) len len T sz cs:=
  ⟨h,Nat.le_refl _,.inr ⟨b,0,⟨cs⟩,rfl,rfl,by simp [h],fun k v hk=>by simpa using hk⟩⟩
section
variable {P:Program} {r:Option Nat} {F:CA} {n:Nat} {Q:DD} {env:Env} {own Dk rest:List CA} {ds:List Deferred} {all:Array Oper} {o:Oper} {an:An} {ml:ML} {s:List Sg}
theorem IY{m d:Nat}{cl:Call}{x:Operand}{f:FuncId}{first captured:Array Value}{vs FI:List Value}{R:Ending->List CA->Prop} [Enters P f]
    (hi:all[m]?=some o) (hd:o.dst=some d) (hg:C6 all env o=some true)
    (ho:o.op= .call cl) (hc:cl.callee= .value x) (hx:ev env x=some (.func (.func f) first captured)) (Ko:OW env cl.args.toList=some vs)
    (Fp:Lq first.toList vs captured.toList=some FI) (hp:T P f FI own fun e o=>∃N,o=own++N/\R e N)
    (h:∀(e:Ending) (N:List CA),R e N->∃v Dp,e= .returned v/\IT own N=some Dp/\D0 P r F n all Dk Q ds s ((d,v)::env) Dp an ml):D0 P r F n all Dk Q ds (.h false m::s) env own an ml:=by
  haveI:Dx own own []:=⟨by simp⟩;refine Ev hi hd hg ho hc hx Ko Fp hp (fun e o ⟨N,h1,_⟩=>⟨N,h1⟩) fun e o hR=> ?_
  obtain⟨N,rfl,hR⟩:=hR;obtain⟨v,Dp,h1,h2,h3⟩:=h e N hR;exact⟨v,Dp,h1,by rw [NG,Gd h2],h3⟩
end
end Go.SL
end
section
namespace Go.SL
theorem Qs {P:Program}{n:Nat}{o:Oper}{env:Env}{t T:TypeId}{x y:Operand}{base:Option Addr}{k len cap sz:Nat}{h:CA}{v:Value}{cs vs cs':List Value}{d:TypeDesc}{z:Value}{ti:TypeInfo} [ty:Ty P t d z ti]
    (os:OS h base len cap T sz cs) (ho:o.op= .store t x y) (hx:ev env x=some (Rb base k)) (hy:ev env y=some v)
    (hv:EA v=some vs) (Hs:vs.length=ti.size) (h1:vs.all (·.oneCell')=true) (GJ:0<vs.length) (hk:k+vs.length≤cs.length) (hc:cs'=cs.take k++vs++cs.drop (k+vs.length)):
    Et P [h] n o env fun _ own'=>∃h',own'= [h']/\OS h' base len cap T sz cs':=by
  refine⟨by rw [ho];rfl,fun a w X ha hs=> ?_⟩;have hl:=os.hlen;rcases os.shape with ⟨-,h2, -, -⟩|⟨b,off,arr,hb,hh,hsize,Oi⟩
  · rw [h2,Nat.zero_mul] at hl;omega
  · subst hb;subst hh;have s1:Sat (CV b (.cells arr T (0,0))::X) w:=by simpa using hs
    have hb:w.heap[b]?=some (.cells arr T (0,0)):=s1.at (List.mem_cons_self ..) (Dq _ _);have hle:len*sz≤cap*sz:=Nat.mul_le_mul_right _ os.hle;have Gy:=run_storeCells_at P b (off+k) T vs 0 arr w hb Ab (by simpa using h1);have ZT:=Fg hv
    let arr':Array Value:=(arr.toList.take (off+k+0)++vs++arr.toList.drop (off+k+0+vs.length)).toArray
    have FE:(execOp a.eval o).run P w= .ok .skip (w.setRow b arr'):=by
      simp [execOp,ho,Instr.storeAt,ha.eval hx,ha.eval hy,Rb,Instr.sureAddr,storeVar,Ej ty.i,ZT,Hs,Gy,arr']
    have hlen':cs'.length=cs.length:=by rw [hc];simp;omega
    refine⟨w.setRow b arr',.inr (.inl ⟨[CV b (.cells arr' T (0,0))],FE,?_,_,rfl,?_⟩)⟩
    · have s2:=s1.put (setRow_heap w b _ arr' T (0,0) hb) Av Av (fun k hk=>setRow_other w b k _ hk) (fun _=>rfl);simpa using s2
    · refine⟨by rw [hlen',hl],os.hle,.inr ⟨b,off,arr',rfl,rfl,?_,fun j v hj=> ?_⟩⟩
      · have:arr'.size=arr.size:=by simp [arr'];omega
        rw [this];exact hsize
      · subst hc;simp only [arr',Nat.add_zero,List.getElem?_toArray];rw [List.append_assoc] at hj ⊢
        by_cases h1:j<k
        · rw [List.getElem?_append_left As,List.getElem?_take,if_pos h1] at hj
          rw [List.getElem?_append_left As,List.getElem?_take,if_pos Ab];have:=Oi j v hj;simpa using this
        · rw [List.getElem?_append_right As] at hj
          rw [List.getElem?_append_right As];have e1:(cs.take k).length=k:=by simp;omega
          have e2:(arr.toList.take (off+k)).length=off+k:=by simp;omega
          rw [e1] at hj
          rw [e2,show off+j - (off+k)=j - k by omega];by_cases h2:j - k<vs.length
          · rw [List.getElem?_append_left h2] at hj ⊢;exact hj
          · rw [List.getElem?_append_right Ab,List.getElem?_drop] at hj ⊢
            have:=Oi _ v hj;rw [show off+(k+vs.length+(j - k - vs.length))=off+k+vs.length+(j - k - vs.length) by omega] at this
            simpa using this
theorem OS.len{h:CA}{base:Option Addr}{n c:Nat}{T:TypeId}{α:Type}{xs:List α}{f:α->Value}(os:OS h base n c T 1 (xs.map f)):xs.length=n:=by
  have:=os.hlen;simpa using this
section
variable {P:Program} {own:List CA} {n:Nat} {env:Env} {o:Oper}
theorem H0{t:TypeId}{x:Operand}{k:Nat}{base:Option Addr}{cs:List Value}{v u z:Value} [ty:dR P t 3](ho:o.op= .load t x)(hx:ev env x=some (Rb base k))(m:Ds own base cs)(hv:cs[k]?=some v)(hu:cs[k+1]?=some u)(hz:cs[k+2]?=some z):DG P own n o env (.agg ⟨[v,u,z]⟩):=
  I5 (vs:= [v,u,z]) ho hx (Nat.succ_pos 2) rfl fun j w hj=>by
    match j,hj with
    |0,hj=>simp at hj;subst hj;exact hv
    |1,hj=>simp at hj;subst hj;exact hu
    |2,hj=>simp at hj;subst hj;exact hz
end
section
variable {P:Program} {r:Option Nat} {F:CA} {n:Nat} {Q:DD} {env:Env} {own rest hs Dk:List CA} {ds:List Deferred} {all:Array Oper} {l:List Oper} {o:Oper} {s:List Sg} {an:An} {ml:ML}
theorem Ph{R:Value->List CA->Prop}(hd:o.dst=none)(hg:C6 all env o=some true) [t:Dx own hs rest](h:Et P hs n o env R)
    (hr:∀v own',R v own'->∃Dp,IT own' rest=some Dp/\DE false P r F n all l Q env Dp ds):DE false P r F n all (o::l) Q env own ds:=fun k hk=>by
  obtain⟨i,k',rfl,hi,Oh⟩:=YZ hk;intro a w ha OT hs';rw [wpOpsIn_cons];have pp:(F::own).Perm (hs++(rest++ [F])):=(List.perm_append_comm (l₁:= [F]) (l₂:=own)).trans (by rw [<-List.append_assoc];exact t.perm.append_right [F]);refine cV h hi (Ee ha hg) ha rfl (hs'.perm pp) fun v own' w' hR s=> ?_
  rw [hd];obtain⟨Dp,e2,h2⟩:=hr v own' hR;rw [Gd e2] at h2
  exact h2 k' Oh _ w' (by simpa [Act.put] using ha) OT (s.perm (by rw [<-List.append_assoc];exact List.perm_append_comm (l₁:=own'++rest) (l₂:= [F])))
theorem Gl{t T:TypeId}{x y:Operand}{base:Option Addr}{k len cap sz:Nat}{h:CA}{v:Value}{cs vs cs':List Value}{d:TypeDesc}{z:Value}{ti:TypeInfo} [ty:Ty P t d z ti]
    (hd:o.dst=none) (hg:C6 all env o=some true) (ho:o.op= .store t x y) (hx:ev env x=some (Rb base k)) (hy:ev env y=some v) (os:OS h base len cap T sz cs) [tk:Dx own [h] rest]
    (hv:EA v=some vs) (Hs:vs.length=ti.size) (h1:vs.all (·.oneCell')=true) (GJ:0<vs.length) (hk:k+vs.length≤cs.length) (hc:cs.take k++vs++cs.drop (k+vs.length)=cs')
    (next:∀h',OS h' base len cap T sz cs'->DE false P r F n all l Q env (h'::rest) ds):DE false P r F n all (o::l) Q env own ds:=
  Ph hd hg (Qs os ho hx hy hv Hs h1 GJ hk hc.symm) fun v' own' hR=>by
    obtain⟨h',rfl,HS⟩:=hR;exact⟨_,rfl,next h' HS⟩
theorem Ew{m:Nat}{t T:TypeId}{x y:Operand}{base:Option Addr}{k len cap sz:Nat}{h:CA}{v:Value}{cs vs cs':List Value}{d:TypeDesc}{z:Value}{ti:TypeInfo} [ty:Ty P t d z ti]
    (hi:all[m]?=some o) (hd:o.dst=none) (hg:C6 all env o=some true) (ho:o.op= .store t x y) (hx:ev env x=some (Rb base k)) (hy:ev env y=some v) (os:OS h base len cap T sz cs) [tk:Dx own [h] rest] {GB:List CA} [tp:Dx rest Dk GB]
    (hv:EA v=some vs) (Hs:vs.length=ti.size) (h1:vs.all (·.oneCell')=true) (GJ:0<vs.length) (hk:k+vs.length≤cs.length) (hc:cs.take k++vs++cs.drop (k+vs.length)=cs')
    (next:∀h',OS h' base len cap T sz cs'->D0 P r F n all Dk Q ds s env (h'::rest) an ml):D0 P r F n all Dk Q ds (.h true m::s) env own an ml:=
  Ua hi hd hg (Qs os ho hx hy hv Hs h1 GJ hk hc.symm) Lg (fun _=> .inl ⟨GB,tp.perm⟩) fun v' own' hR=>by
    obtain⟨h',rfl,HS⟩:=hR;exact⟨_,rfl,next h' HS⟩
theorem CJ{fn:Func}{own1:List CA}(hs:List CA){v:Value}{Q:Ending->List CA->Prop} [m:Marks ds own own1] [t:Dx own1 hs rest](hr:IK P fn.results.toList own1 env n v)(hq:Q (.returned v) hs):Mf P fn n Q .ret env own ds:=
  Gj hs hr (fun F _ s=>(s.perm (t.perm.cons F)).sub (List.Sublist.cons_cons F (List.sublist_append_left _ _))) hq
theorem Eh{c:Call}{x:Operand}{f:FuncId}{first captured:Array Value}{vs FI:List Value}{v:Value} [Enters P f]
    (ho:o.op= .call c) (hc:c.callee= .value x) (hx:ev env x=some (.func (.func f) first captured)) (Ko:OW env c.args.toList=some vs)
    (Fp:Lq first.toList vs captured.toList=some FI) (h:Dw P f FI own v):DG P (F::own) n o env v:=
  CE ho hc hx Ko Fp h
end
end Go.SL
end
section
namespace Go.SL
open Go.Sort
theorem Sat.world{hs:List CA}{w w':World}(s:Sat hs w)(h:hle (wh w) (wh w')):Sat hs w':=⟨fun k hk=>(s.le k hk).trans h,s.dj⟩
theorem c6(w:World)(gs:Array Obj):hle (wh w) (wh (grow w gs)):=by
  intro x o hx;cases x with
  | b n=>
    simp only [wh,Option.map_eq_some_iff] at hx ⊢
    obtain⟨y,h1,h2⟩:=hx;have E6:n<w.heap.size:=(Array.getElem?_eq_some_iff.1 h1).1;exact⟨y,by rw [heap_grow_old w gs E6];exact h1,h2⟩
  |os=>exact hx
  | fz n=>
    simp only [wh] at hx ⊢
    split at hx
    · rename_i E6
      rw [if_pos As,<-hx]
      congr 2
      funext off
      exact frozen?_grow w gs _ E6
    · cases hx
theorem OS.row{h:CA}{X:List CA}{w:World}{base:Option Addr}{len cap:Nat}{T:TypeId}{k:IntKind}{zs:List Int}(os:OS h base len cap T 1 (zs.map (.int k)))(GJ:0<len)(s:Sat (h::X) w):
    ∃ b off,base=some ⟨b,off,none⟩/\b<w.heap.size/\Holds (Value.int k) w b off zs.toArray/\
      ∀(ys:List Int) (n:Nat) (gs:Array Obj),ys.length=zs.length->∃h',OS h' base len cap T 1 (ys.map (.int k))/\Sat (h'::X) (grow (putRow (Value.int k) (Sort.ahead w n) b off ys.toArray) gs):=by
  have hl:=os.len;rcases os.shape with ⟨-,h2, -, -⟩|⟨b,off,arr,hb,hh,Hs,Oi⟩
  · omega
  · subst hh;have hg:w.heap[b]?=some (.cells arr T (0,0)):=s.at (List.mem_cons_self ..) (Dq _ _);refine⟨b,off,hb,(Array.getElem?_eq_some_iff.1 hg).1,fun j hj=> ?_,fun ys n gs rk=> ?_⟩
    · have hj':j<zs.length:=by simpa using hj
      refine⟨?_,by rw [LM hg];simp [Pt]⟩;rw [Hf hg];refine Oi j _ ?_;simp [hj']
    · have hle:=os.hle
      let arr':=putCells (Value.int k) off ys.toArray arr
      refine⟨SL.CV b (.cells arr' T (0,0)),⟨by simp [rk,hl],os.hle,.inr ⟨b,off,arr',hb,rfl,by simpa [arr',putCells] using Hs,fun j v hj=> ?_⟩⟩,?_⟩
      · rw [List.getElem?_map,Option.map_eq_some_iff] at hj
        obtain⟨y,hy,rfl⟩:=hj;obtain⟨ey,rl⟩:=List.getElem?_eq_some_iff.1 hy;have E6:off+j<arr.size:=by omega
        simp only [arr',putCells,Array.getElem?_mapIdx,Array.getElem?_eq_getElem E6,Option.map_some,List.size_toArray];rw [if_pos ⟨by omega,by omega⟩,show off+j - off=j by omega];simp [ey,rl]
      · have s0:Sat (SL.CV b (.cells arr T (0,0))::X) (Sort.ahead w n):=s.heap rfl rfl rfl;have e:(putRow (Value.int k) (Sort.ahead w n) b off ys.toArray).heap=w.heap.modify b (onCells (putCells (Value.int k) off ys.toArray)):=rfl;refine Sat.world (w:=putRow (Value.int k) (Sort.ahead w n) b off ys.toArray) ?_ (c6 _ _);refine s0.put (o':= .cells arr' T (0,0)) ?_ rfl rfl (fun q hq=> ?_) (fun _=>rfl)
        · rw [e,Array.getElem?_modify,if_pos rfl,hg];rfl
        · rw [e,Array.getElem?_modify,if_neg (Ne.symm hq)];rfl
end Go.SL
end
