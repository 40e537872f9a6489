
import Derived.Test.YtcnmnmjmpocepaaGreatDoorU06
import Derived.Test.YtcnmnmjmpocepaaGreatDoorU04
import Derived.Sort.Grow
set_option linter.unusedVariables false
set_option linter.unusedSimpArgs false
set_option linter.unusedSectionVars false
set_option maxRecDepth 100000
set_option maxHeartbeats 16000000
section
namespace Go.SL
inductive Sg
  |q (l:List Nat)
  |f (l:List Nat)
  |r (l:List Nat)
  |an (i:Nat)
  |rv (i:Nat)
  |h (c:Bool) (m:Nat)
  |fi (i j:Nat)
def Sg.F6:Sg->List It
  | .q l=>l.map It.q
  | .f l=>l.map It.f
  | .r l=>l.map It.r
  | .an i=> [.an i]
  | .rv i=> [.rv i]
  | .h c m=> [.h c m]
  | .fi i j=> [.fi i j]
def UR:List Sg->List It
  | []=> []
  |s::r=>s.F6++UR r
abbrev ML:=List (Nat×Nat×Int×Value)
def Pq:ML->En
  | []=>fun _=>none
  |(i,j,z,v)::r=>O6 (Pq r) i (j,.int .i64,.int .i64 z,v)
def Du(P:Program)(r:Option Nat)(F:B6)(n:Nat)(all:Array Oper)(CR:List B6)(Q:C4)(ds:List Deferred):List Sg->Env->List B6->An->ML->Prop
  | [],env,own,_,_=>Q .normal env own ds
  | .q l::s,env,own,an,ml=>Mz P F n all own (fun env'=>Du P r F n all CR Q ds s env' own an ml) l env
  | .f l::s,env,own,an,ml=>Mz P emp n all [] (fun env'=>Du P r F n all CR Q ds s env' own an ml) l env
  | .r l::s,env,own,an,ml=>Mz P F n all CR (fun env'=>Du P r F n all CR Q ds s env' own an ml) l env
  | .an i::s,env,own,an,ml=>∃o vf ob,all[i]?=some o/\Cy all env o=some true/\Kt P n o env vf ob/\Du P r F n all CR Q ds s env own (RP an i (vf,ob)) ml
  | .rv i::s,env,own,an,ml=>∃vf ob,an i=some (vf,ob)/\∀b Wm,M6 (Fj (Pq ml) (fun _=>true) all.size i) ob Wm->Du P r F n all CR Q ds s (HN all i (vf b) env) (Co b Wm::own) an ml
  | .fi i j::s,env,own,an,ml=>∃z v,Zc P all env an (Pq ml) i j (.int .i64) (.int .i64 z) v/\Du P r F n all CR Q ds s env own an ((i,j,z,v)::ml)
  | .h c m::s,env,own,an,ml=>∃o Hn Fg R Z,all[m]?=some o/\own.Perm (Hn++Fg)/\((Cy all env o=some true/\Zf P Hn n o env R Z)∨(Cy all env o=some false/\Ek o.op=true/\R undef Hn))/\
      (c=false->∀v own',R v own'->∃N,own'.Perm (Hn++N))/\(c=true->(∃Y,Fg.Perm (CR++Y))∨N9 all m=true)/\(∀v own',R v own'->Du P r F n all CR Q ds s (HN all m v env) (own'++Fg) an ml)/\∀ch own',Z ch own'->Q (.panic ch) [] (own'++Fg) ds
def noMap:Obj->Bool
  | .map .. =>false
  |_=>true
theorem noMap_fin{dg:List (Value×Value)}{ob o:Obj}(h:noMap ob=true)(hf:M6 dg ob o):o=ob:=by
  unfold M6 at hf
  split at hf
  · cases h
  · exact hf
section
variable {P:Program} {r:Option Nat} {F:B6} {n:Nat} {CR:List B6} {Q:C4} {env:Env} {own rest hs Hn Fg:List B6} {ds:List Deferred} {all:Array Oper} {s:List Sg} {o:Oper} {id:Nat} {an:An} {ml:ML}
theorem Rb{K:Env->List B6->Prop}{Kz:List PanicEntry->List B6->Prop}{F1:B6}{own1:List B6}{it:Nat->It}{own:List B6}{an:An}{en:En}(c7:∀i rr env o v,all[i]?=some o->I0 P F1 n all own1 env o v->HQ P F n all CR K Kz rr (HN all i v env) own an en->HQ P F n all CR K Kz (it i::rr) env own an en)
    {rr:List It}:∀ {l:List Nat} {env:Env},Mz P F1 n all own1 (fun env'=>HQ P F n all CR K Kz rr env' own an en) l env->HQ P F n all CR K Kz (l.map it++rr) env own an en:=by
  intro l;induction l with
  |nil=>intro env h;exact h
  | cons i l ih=>
    intro env h;simp only [Mz] at h
    obtain⟨o,v,h1,h2,h3,h4⟩:=h;refine c7 i _ env o v h1 ⟨h2,h3⟩ (ih ?_);have:HN all i v env=(match o.dst with|some d=>(d,v)::env|none=>env):=by simp only [HN,h1,Option.bind_some] <;>cases o.dst <;>rfl
    rw [this];exact h4
theorem YX:∀ {s:List Sg} {env:Env} {own:List B6} {an:An} {ml:ML},Du P r F n all CR Q ds s env own an ml->HQ P F n all CR (fun env own=>Q .normal env own ds) (fun ch own=>Q (.panic ch) [] own ds) (UR s) env own an (Pq ml):=by
  intro s;induction s with
  |nil=>intro env own an ml h;exact h
  | cons x s ih=>
    intro env own an ml h;cases x with
    |q l=>exact Rb (it:=It.q) (own1:=own) (F1:=F) (fun i rr env o v h1 h2 h3=>⟨o,v,h1,h2,h3⟩) (Mc (fun env h=>ih h) h)
    |f l=>exact Rb (it:=It.f) (fun i rr env o v h1 h2 h3=>⟨o,v,h1,h2,h3⟩) (Mc (fun env h=>ih h) h)
    |r l=>exact Rb (it:=It.r) (fun i rr env o v h1 h2 h3=>⟨o,v,h1,h2,h3⟩) (Mc (fun env h=>ih h) h)
    | an i=>
      obtain⟨o,vf,ob,h1,h2,h3,h4⟩:=h;exact⟨o,vf,ob,h1,h2,h3,ih h4⟩
    | rv i=>
      obtain⟨vf,ob,h1,h2⟩:=h;exact⟨vf,ob,h1,fun b Wm hf=>ih (h2 b Wm hf)⟩
    | fi i j=>
      obtain⟨z,v,h1,h2⟩:=h;exact⟨_,_,_,h1,ih h2⟩
    | h c m=>
      obtain⟨o,Hn,Fg,R,Z,h1,h2,h3,h5,h7,h6,h8⟩:=h;exact⟨o,Hn,Fg,R,Z,h1,h2,h3,h5,h7,fun v own' hR=>ih (h6 v own' hR),h8⟩
theorem Cu(s:List Sg)(CR:List B6) [tp:C1 own CR rest]{ops:Array Oper}(Jf:WW ops=true)(fp:P.follows .mixedOrders=true)(WM:Vp ops (UR s)=true)(MZ:fB ops n=true)
    (h:Du P r F n ops CR Q ds s env own (fun _=>none) []):Db P r F n (.region id ops true) Q env own ds:=
  VY CR ⟨rest,tp.perm⟩ Jf fp WM (WV MZ) (YX h)
theorem Cz(h:Q .normal env own ds):Du P r F n all CR Q ds [] env own an ml:=h
theorem CQ{l:List Nat}{A:List Oper}(hA:NS all l=some A)(h:C6 true P r F n all A (Qj (fun JE _ _=>Du P r F n all CR Q ds s JE own an ml) (fun _ _ _ _=>False)) env own ds):Du P r F n all CR Q ds (.q l::s) env own an ml:=
  h l (NQ hA)
theorem FD{l:List Nat}{A:List Oper}(hA:NS all l=some A)(h:C6 true P r emp n all A (Qj (fun JE _ _=>Du P r F n all CR Q ds s JE own an ml) (fun _ _ _ _=>False)) env [] ds):Du P r F n all CR Q ds (.f l::s) env own an ml:=
  h l (NQ hA)
theorem MV{l:List Nat}{A:List Oper}(hA:NS all l=some A)(h:C6 true P r F n all A (Qj (fun JE _ _=>Du P r F n all CR Q ds s JE own an ml) (fun _ _ _ _=>False)) env CR ds):Du P r F n all CR Q ds (.r l::s) env own an ml:=
  h l (NQ hA)
theorem DL{i d:Nat}{vf:Nat->Value}{ob:Obj}(hi:all[i]?=some o)(hd:o.dst=some d)(ha:an i=some (vf,ob))(h:∀b,Du P r F n all CR Q ds s ((d,vf b)::env) (Co b ob::own) an ml)(hm:noMap ob=true:=by rfl):Du P r F n all CR Q ds (.rv i::s) env own an ml:=by
  refine⟨vf,ob,ha,fun b Wm hf=> ?_⟩;have:HN all i (vf b) env=(d,vf b)::env:=by simp only [HN,hi,Option.bind_some,hd]
  rw [this,noMap_fin hm hf];exact h b
theorem Dg{i:Nat}{vf:Nat->Value}{ob:Obj}(hi:all[i]?=some o)(hg:Cy all env o=some true)(hn:Kt P n o env vf ob)(h:Du P r F n all CR Q ds s env own (RP an i (vf,ob)) ml):Du P r F n all CR Q ds (.an i::s) env own an ml:=
  ⟨o,vf,ob,hi,hg,hn,h⟩
theorem OE{c:Bool}{m d:Nat}{R:Value->List B6->Prop}(hi:all[m]?=some o)(hd:o.dst=some d)(hg:Cy all env o=some true) [t:C1 own hs rest](Yu:DS P hs n o env R)
    (c9:c=false->∀v own',R v own'->∃N,own'.Perm (hs++N)) (eX:c=true->(∃Y,rest.Perm (CR++Y))∨N9 all m=true) (h:∀v own',R v own'->∃CN,Ht own' rest=some CN/\Du P r F n all CR Q ds s ((d,v)::env) CN an ml):Du P r F n all CR Q ds (.h c m::s) env own an ml:=by
  refine⟨o,hs,rest,R,fun _ _=>False,hi,t.perm,.inl ⟨hg,DS.z Yu⟩,c9,eX,fun v own' hR=> ?_,fun _ _ h=>h.elim⟩;obtain⟨CN,e2,h2⟩:=h v own' hR;have:HN all m v env=(d,v)::env:=by simp only [HN,hi,Option.bind_some,hd]
  rw [this,<-Fk e2];exact h2
theorem UN{c:Bool}{m:Nat}{R:Value->List B6->Prop}(hi:all[m]?=some o)(hd:o.dst=none)(hg:Cy all env o=some true) [t:C1 own hs rest](Yu:DS P hs n o env R)
    (c9:c=false->∀v own',R v own'->∃N,own'.Perm (hs++N)) (eX:c=true->(∃Y,rest.Perm (CR++Y))∨N9 all m=true) (h:∀v own',R v own'->∃CN,Ht own' rest=some CN/\Du P r F n all CR Q ds s env CN an ml):Du P r F n all CR Q ds (.h c m::s) env own an ml:=by
  refine⟨o,hs,rest,R,fun _ _=>False,hi,t.perm,.inl ⟨hg,DS.z Yu⟩,c9,eX,fun v own' hR=> ?_,fun _ _ h=>h.elim⟩;obtain⟨CN,e2,h2⟩:=h v own' hR;have:HN all m v env=env:=by simp only [HN,hi,Option.bind_some,hd]
  rw [this,<-Fk e2];exact h2
theorem JU{t:TypeId}{de:TypeDesc}{z:Value}{ti:TypeInfo}{cs:List Value} [ty:Ty P t de z ti](ho:o.op= .alloc t)(hz:D9 z=some cs):
    Kt P n o env (fun b=> .pointer (some ⟨b,0,none⟩)) (.cells ⟨cs⟩ t (0,0)):=
  ⟨by rw [ho];rfl,fun _=>by simp [Ou],fun a w _=>by simp [execOp,ho,Instr.alloc,ty.z,newVar,newRow,EB hz]⟩
theorem EY{t e:TypeId}{sz bytes len:Nat}{ps:Array (Nat×Operand)}{qs:List (Nat×Value)}{zv:Value}{zc zs cs:List Value}{de:TypeDesc}{ti:TypeInfo} [g:M4 P t e sz bytes] [z:Ty P e de zv ti]
    (ho:o.op= .buildSlice t len ps) (hp:Q6 env ps.toList=some qs)
    (P0:D9 zv=some zc) (Su:zc.length=sz) (hz:TI len zc=some zs) (hb:JI (fun i=>some (i*sz,sz)) zs qs=some cs) (Ol:Nat.ble (len*sz) 16777216=true):
    Kt P n o env (fun b=> .slice (some ⟨b,0,none⟩) len len) (.cells ⟨cs⟩ e (0,0)):=by
  refine⟨by rw [ho];rfl,fun _=>by simp [Ou],fun A w hA=> ?_⟩;obtain⟨i,z',g1,g2,g3,g4,g5,g6⟩:=g.all;have e1:(ps.map fun(p:Nat×Operand)=>(p.1,A.eval p.2))=(⟨qs⟩:Array (Nat×Value)):=Array.ext' (by simpa using Ms hA hp);have hbig':¬16777216<len*sz:=by have:=Nat.le_of_ble_eq_true Ol;omega
  have hzr:=U2 zc len;rw [hz] at hzr
  simp only [Option.some.injEq] at hzr
  have hfill:=fill_eq hb;have GH:(sizeOf e).run P w= .ok sz w:=by rw [DO g2,g5]
  have hzero:((Array.range (len*sz)).map fun j=>(⟨zc⟩:Array Value)[j%(⟨zc⟩:Array Value).size]!)=⟨zs⟩:=by
    apply Array.ext';apply List.ext_getElem?;intro j;have Xe:(⟨zc⟩:Array Value).size=sz:=Su;rw [Xe];by_cases hj:j<len*sz
    · have hszpos:0<sz:=Nat.pos_of_ne_zero fun e=>by rw [e] at hj;simp at hj
      have hm:j%sz<zc.length:=by rw [Su];exact Nat.mod_lt _ hszpos
      rw [hzr,U3 zc len j (by rw [Su];exact hj),Su];simp [hj,hm]
    · rw [hzr,List.getElem?_eq_none Aq,List.getElem?_eq_none (by simp [Su];omega)]
  simp only [execOp,ho];rw [show(ps.map fun(x:Nat×Operand)=>match x with|(i,x)=>(i,A.eval x))=(⟨qs⟩:Array (Nat×Value)) from e1];by_cases h0:len*sz=0
  · have aY:zs= []:=by
      have:zs.length=len*sz:=by rw [hzr];simp [Su]
      rw [h0] at this;exact List.length_eq_zero_iff.1 this
    rw [aY] at hfill
    have Uy:(Array.range 0).map (fun(_:Nat)=>(default:Value))=⟨[]⟩:=by simp
    simp [Instr.buildSlice,CL g1,GH,h0,Uy,hfill,newRow]
  · have hc:=EB P0;have hzero':((Array.range (len*sz)).map fun j=>zv.cells[j%zv.cells.size]!)=⟨zs⟩:=by rw [hc];exact hzero
    simp [Instr.buildSlice,CL g1,GH,h0,hbig',z.z,hzero',hfill,newRow]
theorem bk{c:Call}{x:Operand}{f:FuncId}{first captured:Array Value}{vs EL:List Value}{hs:List B6}{R:Ending->List B6->Prop} [Enters P f]
    (ho:o.op= .call c) (hc:c.callee= .value x) (hx:ev env x=some (.func (.func f) first captured)) (IV:MU env c.args.toList=some vs)
    (Et:JK first.toList vs captured.toList=some EL) (h:T P f EL hs R) (cT:∀(e:Ending) (own':List B6),R e own'->∃v,e= .returned v):
    DS P hs n o env fun v own'=>R (.returned v) own':=
  Sx ho hc hx IV Et (h.mono fun e own' hR=>by obtain⟨v,rfl⟩:=cT e own' hR;exact⟨v,rfl,hR⟩)
theorem eY{c:Call}{x:Operand}{f:FuncId}{first captured:Array Value}{vs EL:List Value}{hs:List B6}{v:Value} [Enters P f]
    (ho:o.op= .call c) (hc:c.callee= .value x) (hx:ev env x=some (.func (.func f) first captured)) (IV:MU env c.args.toList=some vs)
    (Et:JK first.toList vs captured.toList=some EL) (h:C7 P f EL hs v):
    DS P hs n o env fun v' own'=>v'=v/\own'=hs:=
  Sx ho hc hx IV Et (h.mono fun e own' ⟨h1,h2⟩=>⟨v,h1,rfl,h2⟩)
theorem P3{t T:TypeId}{x y:Operand}{b off:Nat}{v:Value}{cs vs cs':List Value}{d:TypeDesc}{z:Value}{ti:TypeInfo} [ty:Ty P t d z ti]
    (ho:o.op= .store t x y) (hx:ev env x=some (.pointer (some ⟨b,off,none⟩))) (hy:ev env y=some v)
    (hv:D9 v=some vs) (GH:vs.length=ti.size) (h1:vs.all (·.oneCell')=true) (hc:Fe cs off vs=some cs'):
    DS P [Co b (.cells ⟨cs⟩ T (0,0))] n o env fun _ own'=>own'= [Co b (.cells ⟨cs'⟩ T (0,0))]:=by
  refine⟨by rw [ho];rfl,fun a w X ha hs=> ?_⟩;obtain⟨g1,g2⟩:=Ky hc;have s1:Sat (Co b (.cells ⟨cs⟩ T (0,0))::X) w:=by simpa using hs
  have hb:w.heap[b]?=some (.cells ⟨cs⟩ T (0,0)):=s1.at (List.mem_cons_self ..) (CT _ _);have FB:=run_storeCells_at P b off T vs 0 ⟨cs⟩ w hb (by simpa using g2) (by simpa using h1);have Kc:((⟨cs⟩:Array Value).toList.take (off+0)++vs++(⟨cs⟩:Array Value).toList.drop (off+0+vs.length)).toArray=⟨cs'⟩:=by rw [g1];rfl
  rw [Kc] at FB
  have YC:=EB hv;have E0:(execOp a.eval o).run P w= .ok .skip (w.setRow b ⟨cs'⟩):=by
    simp [execOp,ho,Instr.storeAt,ha.eval hx,ha.eval hy,Instr.sureAddr,storeVar,DO ty.i,YC,GH,FB]
  refine⟨w.setRow b ⟨cs'⟩,.inr (.inl ⟨_,E0,?_,rfl⟩)⟩;have s2:=s1.put (setRow_heap w b _ ⟨cs'⟩ T (0,0) hb) As As (fun k hk=>setRow_other w b k _ hk) (fun _=>rfl);simpa using s2
theorem Ux{t e:TypeId}{sz bytes:Nat}{c:Call}{x y:Operand}{h hn:B6}{base:Option Addr}{len cap m mc:Nat}{cs news:List Value}{a:Addr} [g:M4 P t e sz bytes]
    (ho:o.op= .call c) (hc:c.callee= .builtin .append) (Il:c.args= #[x,y]) (E5:c.argTypes= #[t,t])
    (hx:ev env x=some (.slice base len cap)) (hy:ev env y=some (.slice (some a) m mc)) (mm:Sl hn (some a) news) (os:OS h base len cap e sz cs)
    (hm:0<m) (FZ:news.length=m*sz) (Gr:0<sz) (h1:news.all (·.oneCell')=true) (Fq:(len+m)*bytes≤70368744177664) (hlen:len+m≤70368744177664):
    DS P [h,hn] n o env fun v own'=>∃h' DN E4,v= .slice DN (len+m) E4/\own'= [h',hn]/\OS h' DN (len+m) E4 e sz (cs++news):=by
  refine⟨by rw [ho];rfl,fun A w X hA hs=> ?_⟩;obtain⟨i,z,g1,g2,g3,g4,g5,g6⟩:=g.all;subst g5;subst g6;have s2:Sat (h::hn::X) w:=by simpa using hs
  have Ke:∀j v,news[j]?=some v->w.cell? (a.add j)=some v:=fun j v hj=>by
    have mi:C0 [h,hn] (some a) news:=⟨hn,by simp,mm⟩;obtain⟨a',e1,e2,e3⟩:=mi.cell hs hj;cases e1;obtain⟨b,off,sp⟩:=a;simp only at e2
    subst e2;rw [DX];exact e3
  obtain⟨h',DN,E4,w',E0,HT,s3⟩:=NK (P:=P) (ty:=o.type) (c:=mc) g1 g2 g3 g4 os s2 hm FZ Ke (by simpa using h1) Fq hlen;refine⟨w',.inl ⟨.slice DN (len+m) E4,[h',hn],?_,by simpa using s3,h',DN,E4,rfl,rfl,HT⟩⟩;simp [execOp,ho,resolve,hc,Il,E5,invoke,builtin,hA.eval hx,hA.eval hy,E0]
theorem Mn{R:Value->List B6->Prop}{hs:List B6}:true=false->∀v own',R v own'->∃N,own'.Perm (hs++N):=fun h=>by cases h
theorem Jb{m d:Nat}{cl:Call}{x:Operand}{f:FuncId}{first captured:Array Value}{vs EL:List Value}{v:Value} [Enters P f]
    (hi:all[m]?=some o) (hd:o.dst=some d) (hg:Cy all env o=some true) [t:C1 own hs rest]
    (ho:o.op= .call cl) (hc:cl.callee= .value x) (hx:ev env x=some (.func (.func f) first captured)) (IV:MU env cl.args.toList=some vs)
    (Et:JK first.toList vs captured.toList=some EL) (hp:C7 P f EL hs v) {CN:List B6} (h2:Ht hs rest=some CN) (h:Du P r F n all CR Q ds s ((d,v)::env) CN an ml):Du P r F n all CR Q ds (.h false m::s) env own an ml:=
  OE hi hd hg (eY ho hc hx IV Et hp) (fun _ v own' hR=>⟨[],by rw [hR.2];simp⟩) (fun h=>by cases h) fun v' own' hR=>by
    obtain⟨rfl,rfl⟩:=hR;exact⟨CN,h2,h⟩
theorem D0{m d:Nat}{cl:Call}{x:Operand}{f:FuncId}{first captured:Array Value}{vs EL:List Value}{R:Ending->List B6->Prop} [Enters P f]
    (hi:all[m]?=some o) (hd:o.dst=some d) (hg:Cy all env o=some true) [t:C1 own hs rest]
    (ho:o.op= .call cl) (hc:cl.callee= .value x) (hx:ev env x=some (.func (.func f) first captured)) (IV:MU env cl.args.toList=some vs)
    (Et:JK first.toList vs captured.toList=some EL) (hp:T P f EL hs R) (c9:∀(e:Ending) (own':List B6),R e own'->∃N,own'=hs++N)
    (h:∀(e:Ending) (own':List B6),R e own'->∃v CN,e= .returned v/\Ht own' rest=some CN/\Du P r F n all CR Q ds s ((d,v)::env) CN an ml):Du P r F n all CR Q ds (.h false m::s) env own an ml:=
  OE hi hd hg (bk ho hc hx IV Et hp fun e own' hR=>by obtain⟨v,_,h1,_⟩:=h e own' hR;exact⟨v,h1⟩)
    (fun _ v own' hR=>by obtain⟨N,rfl⟩:=c9 _ _ hR;exact⟨N,List.Perm.refl _⟩) (fun h=>by cases h) fun v own' hR=>by
    obtain⟨v',CN,h1,h2,h3⟩:=h _ own' hR;cases h1;exact⟨CN,h2,h3⟩
theorem C2{m:Nat}{t T:TypeId}{x y:Operand}{b off:Nat}{v:Value}{cs vs cs':List Value}{d:TypeDesc}{z:Value}{ti:TypeInfo} [ty:Ty P t d z ti]
    (hi:all[m]?=some o) (hd:o.dst=none) (hg:Cy all env o=some true) (ho:o.op= .store t x y) (hx:ev env x=some (.pointer (some ⟨b,off,none⟩))) (hy:ev env y=some v)
    (hv:D9 v=some vs) (GH:vs.length=ti.size) (h1:vs.all (·.oneCell')=true) [at_:At own b (.cells ⟨cs⟩ T (0,0))] (hc:Fe cs off vs=some cs') [tk:C1 own [Co b (.cells ⟨cs⟩ T (0,0))] rest] {Gj:List B6} [tp:C1 rest CR Gj]
    (h:Du P r F n all CR Q ds s env (Co b (.cells ⟨cs'⟩ T (0,0))::rest) an ml):Du P r F n all CR Q ds (.h true m::s) env own an ml:=
  UN hi hd hg (P3 ho hx hy hv GH h1 hc) Mn (fun _=> .inl ⟨Gj,tp.perm⟩) fun v' own' hR=>by
    subst hR;exact⟨_,rfl,h⟩
theorem FP{m:Nat}{t T:TypeId}{x y:Operand}{b off:Nat}{v:Value}{cs vs cs':List Value}{d:TypeDesc}{z:Value}{ti:TypeInfo} [ty:Ty P t d z ti]
    (hi:all[m]?=some o) (hl:N9 all m=true) (hd:o.dst=none) (hg:Cy all env o=some true) (ho:o.op= .store t x y) (hx:ev env x=some (.pointer (some ⟨b,off,none⟩))) (hy:ev env y=some v)
    (hv:D9 v=some vs) (GH:vs.length=ti.size) (h1:vs.all (·.oneCell')=true) [at_:At own b (.cells ⟨cs⟩ T (0,0))] (hc:Fe cs off vs=some cs') [tk:C1 own [Co b (.cells ⟨cs⟩ T (0,0))] rest]
    (h:Du P r F n all CR Q ds s env (Co b (.cells ⟨cs'⟩ T (0,0))::rest) an ml):Du P r F n all CR Q ds (.h true m::s) env own an ml:=
  UN hi hd hg (P3 ho hx hy hv GH h1 hc) Mn (fun _=> .inr hl) fun v' own' hR=>by
    subst hR;exact⟨_,rfl,h⟩
class aO (own:List B6) (base:Option Addr) (h:outParam B6) (cs:outParam (List Value)):Prop where
  sl:Sl h base cs
instance aO.head{h:B6}{r:List B6}{base:Option Addr}{cs:List Value} [t:Sl h base cs]:aO (h::r) base h cs:=⟨t⟩
theorem FQ{m:Nat}{t e:TypeId}{sz bytes:Nat}{cl:Call}{x y:Operand}{hh hn:B6}{base:Option Addr}{len cap mm mc d:Nat}{cs news:List Value}{a:Addr} [g:M4 P t e sz bytes]
    (hi:all[m]?=some o) (hd:o.dst=some d) (hg:Cy all env o=some true)
    (ho:o.op= .call cl) (hc:cl.callee= .builtin .append) (Il:cl.args= #[x,y]) (E5:cl.argTypes= #[t,t])
    (hx:ev env x=some (.slice base len cap)) (hy:ev env y=some (.slice (some a) mm mc)) [sa:aO own (some a) hn news] (os:OS hh base len cap e sz cs) [tk:C1 own [hh,hn] rest] {Gj:List B6} [tp:C1 rest CR Gj]
    (hm:0<mm) (FZ:news.length=mm*sz) (Gr:0<sz) (h1:news.all (·.oneCell')=true) (Fq:(len+mm)*bytes≤70368744177664) (hlen:len+mm≤70368744177664)
    (h:∀h' DN E4,OS h' DN (len+mm) E4 e sz (cs++news)->Du P r F n all CR Q ds s ((d,.slice DN (len+mm) E4)::env) (h'::hn::rest) an ml):Du P r F n all CR Q ds (.h true m::s) env own an ml:=
  OE hi hd hg (Ux ho hc Il E5 hx hy sa.sl os hm FZ Gr h1 Fq hlen) Mn (fun _=> .inl ⟨Gj,tp.perm⟩) fun v own' hR=>by
    obtain⟨h',b',c',rfl,rfl,HT⟩:=hR;exact⟨_,rfl,h h' b' c' HT⟩
end
section
variable {P:Program} {own:List B6} {n:Nat} {env:Env} {o:Oper}
end
end Go.SL
end
section
namespace Go.SL
open Go.RowKit Go.ChangeShapes Go.WideShapes
theorem mapM_mem{α β:Type}{f:α->Option β}:∀ {l:List α} {r:List β},l.mapM f=some r->∀x∈l,∃y,f x=some y
  | [],_,_,x,hx=>by cases hx
  | a ::l,r,h,x,hx=>by
    rw [List.mapM_cons] at h
    cases h1:f a with
    |none=>rw [h1] at h;simp at h
    | some y=>
      rw [h1] at h
      cases h2:l.mapM f with
      |none=>simp [h2] at h
      | some ys=>
        rcases List.mem_cons.1 hx with rfl|hx
        · exact⟨y,h1⟩
        · exact mapM_mem h2 x hx
theorem MC{H:Type}{enc:TypeId×Value->H}{P:Program}{w:World}{sp:Nat->Bool}{held:Bool}{t:TypeId}{fs:Array Field}{fuel m:Nat}{cs:List Value}{x:DataW H×List MemPlace}
    (ht:P.underlying t=some (.struct fs)) (hn:P.cellsOf t=m) (h:DataW.trod enc P w 0 sp held fuel t cs=some x):
    cs.length=m/\∃n,∀f∈fs.toList,∃y,DataW.trod enc P w 0 sp held n f.type ((cs.drop f.offset).take (P.cellsOf f.type))=some y:=by
  cases fuel with
  |zero=>cases h
  | succ fuel=>
    simp only [DataW.trod,ht] at h
    split at h
    · rename_i hl
      rw [hn] at hl
      refine⟨hl,fuel,?_⟩;simp only [Option.map_eq_some_iff] at h
      obtain⟨xs,hx, -⟩:=h;exact mapM_mem hx
    · cases h
theorem Lc(h:Int):∃n:Nat,n<2^64/\IntKind.u64.wrap h=n:=by
  have e:IntKind.u64.wrap h=h%18446744073709551616:=by simp [IntKind.wrap,IntKind.bits,IntKind.signed]
  exact⟨(h%18446744073709551616).toNat,by omega,by omega⟩
end Go.SL
end
section
namespace Go.SL
section
variable {P:Program} {own:List B6} {n:Nat} {env:Env} {o:Oper}
theorem Vg{c:Call}{x y:Operand}{k:IntKind}{a b:Int}(ho:o.op= .call c)(hc:c.callee= .builtin .max)(Il:c.args= #[x,y])
    (hx:ev env x=some (.int k a)) (hy:ev env y=some (.int k b)):Dc P own n o env (.int k (max a b)):=
  De (by rw [ho];rfl) fun d w ha=>by
    have:(if a<b then b else a)=max a b:=by rw [Int.max_def];split <;>split <;>omega
    simp [execOp,ho,resolve,hc,Il,invoke,builtin,Builtin.max_,Builtin.max2,ha.eval hx,ha.eval hy,this]
theorem TY{t e:TypeId}{base:Option Addr}{len cap:Nat}(hu:P.underlying t=some (.slice e))(w:World):(Op.equal t (.slice base len cap) (.slice none 0 0)).run P w= .ok base.isNone w:=by
  have h:(Op.equalIn 10000 t (.slice base len cap) (.slice none 0 0)).run P w= .ok base.isNone w:=by
    rw [show(10000:Nat)=9999+1 from rfl,Op.equalIn];cases base <;>simp [CL hu]
  exact h
theorem JT{t e u:TypeId}{x:Operand}{z:Value}{i:TypeInfo}{base:Option Addr}{len cap:Nat} [h1:Ty P t (.slice e) z i](ho:o.op= .binOp .eql t x (.const (.slice none 0 0)) u)(hx:ev env x=some (.slice base len cap)):Dc P own n o env (.bool base.isNone):=
  De (by rw [ho];rfl) fun c w ha=>by
    have hy:c.eval (.const (.slice none 0 0))= .slice none 0 0:=rfl;have hg:∀w,(eqGuard .eql t x (.const (.slice none 0 0)) (.slice base len cap) (.slice none 0 0)).run P w= .ok () w:=fun w=>by simp [eqGuard]
    simp only [execOp,ho,ha.eval hx,hy];simp [hg,binOp,TY h1.u]
theorem KG{t e:TypeId}{sz:Nat}{x y m:Operand}{base:Option Addr}{len cap:Nat}{k k2:IntKind}{j i:Int} [h1:Ns P t e sz](ho:o.op= .slice t x none (some y) (some m))(hx:ev env x=some (.slice base len cap))(hy:ev env y=some (.int k j))(hm:ev env m=some (.int k2 i))
    (h0:0≤j) (hj:j≤i) (hi:i≤cap):Dc P own n o env (.slice base j.toNat i.toNat):=
  De (by rw [ho];rfl) fun a w ha=>by
    have hs:=sub_zero base i.toNat sz;unfold sub at hs
    simp only [Nat.zero_mul] at hs
    have hj':j≤(i.toNat:Int):=by omega
    simp [execOp,ho,ha.eval hx,ha.eval hy,ha.eval hm,Instr.sliceAt,Instr.slice,Instr.sliceBounds,CL h1.u,h1.s,Ft Ab hi,Ft h0 hj'];intro h;rw [if_neg Ab] at hs;exact hs
end
instance (priority:=low) C1.refl{own:List B6}:C1 own own []:=⟨by simp⟩
instance (priority:=low) C1.jQ{F:B6}{own:List B6}:C1 (F::own) own [F]:=⟨List.perm_append_comm (l₁:= [F]) (l₂:=own)⟩
theorem LS:∀ {l:List B6},Ht l []=some l
  | []=>rfl
  |_::l=>by simp only [Ht,LS (l:=l)]
theorem I8{P:Program}{t ty e:TypeId}{i:TypeInfo}{base yb:Option Addr}{len cap mc:Nat}(w:World)
    (ht:P.underlying t=some (.slice e)) (hi:P.info? e=some i) (hle:len≤cap):
    (Builtin.append_ #[t,t] ty #[.slice base len cap,.slice yb 0 mc]).run P w= .ok (.slice base len cap) w:=by
  have hf:(Builtin.firstCells i.size 0 (.slice yb 0 mc)).run P w= .ok #[] w:=by
    cases yb with
    |none=>simp [Builtin.firstCells]
    | some a=>
      have h0:(loadCells a 0).run P w= .ok #[] w:=run_loadCells_list (P:=P) w a [] (fun j v hj=>by cases hj);simp [Builtin.firstCells,h0]
  cases base with
  |none=>simp [Builtin.append_,CL ht,DO hi,Builtin.lenOf,hle,hf]
  |some a=>simp [Builtin.append_,CL ht,DO hi,Builtin.lenOf,hle,hf,storeCells]
section
variable {P:Program} {r:Option Nat} {F:B6} {n:Nat} {Q:C4} {env:Env} {own rest hs:List B6} {ds:List Deferred} {all:Array Oper} {l:List Oper} {o:Oper}
theorem Ff{t e:TypeId}{sz bytes:Nat}{c:Call}{x y:Operand}{h:B6}{base yb:Option Addr}{len cap m mc:Nat}{cs news:List Value}{d:Nat} [g:M4 P t e sz bytes]
    (hd:o.dst=some d) (hn:Nat.blt d n=true) (hg:Cy all env o=some true) (ho:o.op= .call c) (hc:c.callee= .builtin .append) (Il:c.args= #[x,y]) (E5:c.argTypes= #[t,t])
    (hx:ev env x=some (.slice base len cap)) (hy:ev env y=some (.slice yb m mc)) [mm:C0 own yb news] (os:OS h base len cap e sz cs) [tk:Ks own h rest]
    (FZ:news.length=m*sz) (Gr:0<sz) (h1:news.all (·.oneCell')=true) (Fq:(len+m)*bytes≤70368744177664) (hlen:len+m≤70368744177664)
    (next:∀h' DN E4,OS h' DN (len+m) E4 e sz (cs++news)->(base=none->m=0->DN=none)->C6 false P r F n all l Q ((d,.slice DN (len+m) E4)::env) (h'::rest) ds):
    C6 false P r F n all (o::l) Q env own ds:=by
  rcases Nat.eq_zero_or_pos m with hm|hm
  · subst hm;have hn0:news= []:=List.length_eq_zero_iff.1 Ab;subst hn0;refine IG hd hn hg (by rw [ho];rfl) fun A w hA hs=> ?_
    obtain⟨i,z,g1,g2,g3,g4,g5,g6⟩:=g.all;have s1:Sat (own++ [F]) w:=hs.perm (List.perm_append_comm (l₁:= [F]) (l₂:=own));have s2:Sat (h::(rest++ [F])) w:=s1.perm (tk.perm.append_right [F]);refine⟨_,w,h::rest,?_,s2.perm (List.perm_append_comm (l₁:=h::rest) (l₂:= [F])),next h base cap (by simpa using os) (fun hb _=>hb)⟩;simp [execOp,ho,resolve,hc,Il,E5,invoke,builtin,hA.eval hx,hA.eval hy,I8 w g1 g2 os.hle]
  · cases yb with
    | none=>
      refine IG hd hn hg (by rw [ho];rfl) fun A w hA hs=> ?_
      have hpos':0<news.length:=by rw [FZ];exact Nat.mul_pos hm Gr
      have s1:Sat (own++ [F]) w:=hs.perm (List.perm_append_comm (l₁:= [F]) (l₂:=own));obtain⟨a',e1, -⟩:=mm.cell s1 (List.getElem?_eq_getElem hpos');cases e1
    |some a=>exact EV hd hn hg ho hc Il E5 hx hy os hm FZ Gr h1 Fq hlen fun h' b' c' HT=>next h' b' c' HT (fun _ e=>by omega)
theorem FI{c:Call}{x:Operand}{f:FuncId}{first captured:Array Value}{vs EL:List Value}{R:Ending->List B6->Prop} [Enters P f]{d:Nat}
    (hd:o.dst=some d) (hn:Nat.blt d n=true) (hg:Cy all env o=some true)
    (ho:o.op= .call c) (hc:c.callee= .value x) (hx:ev env x=some (.func (.func f) first captured)) (IV:MU env c.args.toList=some vs)
    (Et:JK first.toList vs captured.toList=some EL) (h:T P f EL own fun e o=>∃N,o=own++N/\R e N)
    (hr:∀e N,R e N->∃v CN,e= .returned v/\Ht own N=some CN/\C6 false P r F n all l Q ((d,v)::env) CN ds):
    C6 false P r F n all (o::l) Q env own ds:=by
  haveI:C1 own own []:=⟨by simp⟩;refine B9 hd hn hg ho hc hx IV Et h fun e own' hR=> ?_
  obtain⟨N,rfl,hR⟩:=hR;obtain⟨v,CN,h1,h2,h3⟩:=hr e N hR;exact⟨v,CN,h1,by rw [LS,Fk h2],h3⟩
end
theorem KU{k:B6}:∀ {own:List B6},(∀l∈own,DM k l)->DM k (CB own)
  | [],_=>fun b o o' _ x=>by cases x
  |q::qs,d=>Hs (d q (List.mem_cons_self ..)) (KU fun l hl=>d l (List.mem_cons_of_mem _ hl))
theorem DV:∀ {own:List B6} {h:B6},own.Pairwise DM->h∈own->hle h (CB own)
  | [],_,_,hm=>by cases hm
  | k::own,h,d,hm=>by
    obtain⟨d1,d2⟩:=List.pairwise_cons.1 d;rcases List.mem_cons.1 hm with rfl|hm
    · exact Hy
    · have hd:DM k (CB own):=KU d1;exact(DV d2 hm).trans (Gh hd)
theorem Sl.mono{h k:B6}{base:Option Addr}{cs:List Value}(s:Sl h base cs)(l:hle h k):Sl k base cs:=
  ⟨fun j v hj=>by obtain⟨a,arr,T,fz,h1,h2,h3,h4⟩:=s.cell j v hj;exact⟨a,arr,T,fz,h1,h2,l _ _ h3,h4⟩⟩
theorem J7{P:Program}{f:FuncId}{args:List Value}{own:List B6}{R:Ending->List B6->Prop}
    (h:∀J,(∀h∈own,hle h J)->T P f args [J] fun e o=>∃N,o=J::N/\R e N):T P f args own fun e o=>∃N,o=own++N/\R e N:=by
  intro w X s;have d:own.Pairwise DM:=(List.pairwise_append.1 s.dj).1;refine(h (CB own) (fun k hk=>DV d hk) w X (by simpa using s.CB)).mono ?_;rintro e w' ⟨o,s2,N,rfl,hR⟩;refine⟨own++N,?_,N,rfl,hR⟩;have:=Sat.Hl d (ks:=N++X) (by simpa using s2);simpa using this
theorem LW{P:Program}{f:FuncId}{args:List Value}{own:List B6}{v:Value}(h:∀J,(∀h∈own,hle h J)->C7 P f args [J] v):C7 P f args own v:=
  (J7 (R:=fun e N=>e= .returned v/\N= []) fun J hJ=>(h J hJ).mono fun e o ⟨h1,h2⟩=>⟨[],by rw [h2],h1,rfl⟩).mono fun e o ⟨N,h1,h2,h3⟩=>⟨h2,by rw [h1,h3,List.append_nil]⟩
theorem C0.all{own:List B6}{base:Option Addr}{cs:List Value}(s:C0 own base cs){J:B6}(h:∀h∈own,hle h J):Sl J base cs:=by
  obtain⟨k,hk,e⟩:=s.mem;exact e.mono (h k hk)
theorem OS.Co{b len sz:Nat}{T:TypeId}{cs:List Value}(h:cs.length=len*sz):OS (SL.Co b (.cells ⟨cs⟩ T (0,0))) (some ⟨b,0,none⟩) len len T sz cs:=
  ⟨h,Nat.le_refl _,.inr ⟨b,0,⟨cs⟩,rfl,rfl,by simp [h],fun k v hk=>by simpa using hk⟩⟩
section
variable {P:Program} {r:Option Nat} {F:B6} {n:Nat} {Q:C4} {env:Env} {own CR rest:List B6} {ds:List Deferred} {all:Array Oper} {o:Oper} {an:An} {ml:ML} {s:List Sg}
theorem HA{m d:Nat}{cl:Call}{x:Operand}{f:FuncId}{first captured:Array Value}{vs EL:List Value}{R:Ending->List B6->Prop} [Enters P f]
    (hi:all[m]?=some o) (hd:o.dst=some d) (hg:Cy all env o=some true)
    (ho:o.op= .call cl) (hc:cl.callee= .value x) (hx:ev env x=some (.func (.func f) first captured)) (IV:MU env cl.args.toList=some vs)
    (Et:JK first.toList vs captured.toList=some EL) (hp:T P f EL own fun e o=>∃N,o=own++N/\R e N)
    (h:∀(e:Ending) (N:List B6),R e N->∃v CN,e= .returned v/\Ht own N=some CN/\Du P r F n all CR Q ds s ((d,v)::env) CN an ml):Du P r F n all CR Q ds (.h false m::s) env own an ml:=by
  haveI:C1 own own []:=⟨by simp⟩;refine D0 hi hd hg ho hc hx IV Et hp (fun e o ⟨N,h1,_⟩=>⟨N,h1⟩) fun e o hR=> ?_
  obtain⟨N,rfl,hR⟩:=hR;obtain⟨v,CN,h1,h2,h3⟩:=h e N hR;exact⟨v,CN,h1,by rw [LS,Fk h2],h3⟩
end
end Go.SL
end
section
namespace Go.SL
theorem Oi {P:Program}{n:Nat}{o:Oper}{env:Env}{t T:TypeId}{x y:Operand}{base:Option Addr}{k len cap sz:Nat}{h:B6}{v:Value}{cs vs cs':List Value}{d:TypeDesc}{z:Value}{ti:TypeInfo} [ty:Ty P t d z ti]
    (os:OS h base len cap T sz cs) (ho:o.op= .store t x y) (hx:ev env x=some (Q7 base k)) (hy:ev env y=some v)
    (hv:D9 v=some vs) (GH:vs.length=ti.size) (h1:vs.all (·.oneCell')=true) (Gr:0<vs.length) (hk:k+vs.length≤cs.length) (hc:cs'=cs.take k++vs++cs.drop (k+vs.length)):
    DS P [h] n o env fun _ own'=>∃h',own'= [h']/\OS h' base len cap T sz cs':=by
  refine⟨by rw [ho];rfl,fun a w X ha hs=> ?_⟩;have hl:=os.hlen;rcases os.shape with ⟨-,h2, -, -⟩|⟨b,off,arr,hb,hh,hsize,L2⟩
  · rw [h2,Nat.zero_mul] at hl;omega
  · subst hb;subst hh;have s1:Sat (Co b (.cells arr T (0,0))::X) w:=by simpa using hs
    have hb:w.heap[b]?=some (.cells arr T (0,0)):=s1.at (List.mem_cons_self ..) (CT _ _);have hle:len*sz≤cap*sz:=Nat.mul_le_mul_right _ os.hle;have FB:=run_storeCells_at P b (off+k) T vs 0 arr w hb Ab (by simpa using h1);have YC:=EB hv
    let arr':Array Value:=(arr.toList.take (off+k+0)++vs++arr.toList.drop (off+k+0+vs.length)).toArray
    have E0:(execOp a.eval o).run P w= .ok .skip (w.setRow b arr'):=by
      simp [execOp,ho,Instr.storeAt,ha.eval hx,ha.eval hy,Q7,Instr.sureAddr,storeVar,DO ty.i,YC,GH,FB,arr']
    have hlen':cs'.length=cs.length:=by rw [hc];simp;omega
    refine⟨w.setRow b arr',.inr (.inl ⟨[Co b (.cells arr' T (0,0))],E0,?_,_,rfl,?_⟩)⟩
    · have s2:=s1.put (setRow_heap w b _ arr' T (0,0) hb) As As (fun k hk=>setRow_other w b k _ hk) (fun _=>rfl);simpa using s2
    · refine⟨by rw [hlen',hl],os.hle,.inr ⟨b,off,arr',rfl,rfl,?_,fun j v hj=> ?_⟩⟩
      · have:arr'.size=arr.size:=by simp [arr'];omega
        rw [this];exact hsize
      · subst hc;simp only [arr',Nat.add_zero,List.getElem?_toArray];rw [List.append_assoc] at hj ⊢
        by_cases h1:j<k
        · rw [List.getElem?_append_left Aq,List.getElem?_take,if_pos h1] at hj
          rw [List.getElem?_append_left Aq,List.getElem?_take,if_pos Ab];have:=L2 j v hj;simpa using this
        · rw [List.getElem?_append_right Aq] at hj
          rw [List.getElem?_append_right Aq];have e1:(cs.take k).length=k:=by simp;omega
          have e2:(arr.toList.take (off+k)).length=off+k:=by simp;omega
          rw [e1] at hj
          rw [e2,show off+j - (off+k)=j - k by omega];by_cases h2:j - k<vs.length
          · rw [List.getElem?_append_left h2] at hj ⊢;exact hj
          · rw [List.getElem?_append_right Ab,List.getElem?_drop] at hj ⊢
            have:=L2 _ v hj;rw [show off+(k+vs.length+(j - k - vs.length))=off+k+vs.length+(j - k - vs.length) by omega] at this
            simpa using this
theorem OS.len{h:B6}{base:Option Addr}{n c:Nat}{T:TypeId}{α:Type}{xs:List α}{f:α->Value}(os:OS h base n c T 1 (xs.map f)):xs.length=n:=by
  have:=os.hlen;simpa using this
section
variable {P:Program} {own:List B6} {n:Nat} {env:Env} {o:Oper}
theorem Iv{t:TypeId}{x:Operand}{k:Nat}{base:Option Addr}{cs:List Value}{v u z:Value} [ty:Y6 P t 3](ho:o.op= .load t x)(hx:ev env x=some (Q7 base k))(m:C0 own base cs)(hv:cs[k]?=some v)(hu:cs[k+1]?=some u)(hz:cs[k+2]?=some z):Dc P own n o env (.agg ⟨[v,u,z]⟩):=
  HI (vs:= [v,u,z]) ho hx (Nat.succ_pos 2) rfl fun j w hj=>by
    match j,hj with
    |0,hj=>simp at hj;subst hj;exact hv
    |1,hj=>simp at hj;subst hj;exact hu
    |2,hj=>simp at hj;subst hj;exact hz
end
section
variable {P:Program} {r:Option Nat} {F:B6} {n:Nat} {Q:C4} {env:Env} {own rest hs CR:List B6} {ds:List Deferred} {all:Array Oper} {l:List Oper} {o:Oper} {s:List Sg} {an:An} {ml:ML}
theorem Na{R:Value->List B6->Prop}(hd:o.dst=none)(hg:Cy all env o=some true) [t:C1 own hs rest](h:DS P hs n o env R)
    (hr:∀v own',R v own'->∃CN,Ht own' rest=some CN/\C6 false P r F n all l Q env CN ds):C6 false P r F n all (o::l) Q env own ds:=fun k hk=>by
  obtain⟨i,k',rfl,hi,Mm⟩:=VP hk;intro a w ha MO hs';rw [wpOpsIn_cons];have pp:(F::own).Perm (hs++(rest++ [F])):=(List.perm_append_comm (l₁:= [F]) (l₂:=own)).trans (by rw [<-List.append_assoc];exact t.perm.append_right [F]);refine Ys h hi (DH ha hg) ha rfl (hs'.perm pp) fun v own' w' hR s=> ?_
  rw [hd];obtain⟨CN,e2,h2⟩:=hr v own' hR;rw [Fk e2] at h2
  exact h2 k' Mm _ w' (by simpa [Act.put] using ha) MO (s.perm (by rw [<-List.append_assoc];exact List.perm_append_comm (l₁:=own'++rest) (l₂:= [F])))
theorem Hw{t T:TypeId}{x y:Operand}{base:Option Addr}{k len cap sz:Nat}{h:B6}{v:Value}{cs vs cs':List Value}{d:TypeDesc}{z:Value}{ti:TypeInfo} [ty:Ty P t d z ti]
    (hd:o.dst=none) (hg:Cy all env o=some true) (ho:o.op= .store t x y) (hx:ev env x=some (Q7 base k)) (hy:ev env y=some v) (os:OS h base len cap T sz cs) [tk:C1 own [h] rest]
    (hv:D9 v=some vs) (GH:vs.length=ti.size) (h1:vs.all (·.oneCell')=true) (Gr:0<vs.length) (hk:k+vs.length≤cs.length) (hc:cs.take k++vs++cs.drop (k+vs.length)=cs')
    (next:∀h',OS h' base len cap T sz cs'->C6 false P r F n all l Q env (h'::rest) ds):C6 false P r F n all (o::l) Q env own ds:=
  Na hd hg (Oi os ho hx hy hv GH h1 Gr hk hc.symm) fun v' own' hR=>by
    obtain⟨h',rfl,HT⟩:=hR;exact⟨_,rfl,next h' HT⟩
theorem D3{m:Nat}{t T:TypeId}{x y:Operand}{base:Option Addr}{k len cap sz:Nat}{h:B6}{v:Value}{cs vs cs':List Value}{d:TypeDesc}{z:Value}{ti:TypeInfo} [ty:Ty P t d z ti]
    (hi:all[m]?=some o) (hd:o.dst=none) (hg:Cy all env o=some true) (ho:o.op= .store t x y) (hx:ev env x=some (Q7 base k)) (hy:ev env y=some v) (os:OS h base len cap T sz cs) [tk:C1 own [h] rest] {Gj:List B6} [tp:C1 rest CR Gj]
    (hv:D9 v=some vs) (GH:vs.length=ti.size) (h1:vs.all (·.oneCell')=true) (Gr:0<vs.length) (hk:k+vs.length≤cs.length) (hc:cs.take k++vs++cs.drop (k+vs.length)=cs')
    (next:∀h',OS h' base len cap T sz cs'->Du P r F n all CR Q ds s env (h'::rest) an ml):Du P r F n all CR Q ds (.h true m::s) env own an ml:=
  UN hi hd hg (Oi os ho hx hy hv GH h1 Gr hk hc.symm) Mn (fun _=> .inl ⟨Gj,tp.perm⟩) fun v' own' hR=>by
    obtain⟨h',rfl,HT⟩:=hR;exact⟨_,rfl,next h' HT⟩
theorem Cj{fn:Func}{own1:List B6}(hs:List B6){v:Value}{Q:Ending->List B6->Prop} [m:Marks ds own own1] [t:C1 own1 hs rest](hr:Hj P fn.results.toList own1 env n v)(hq:Q (.returned v) hs):Kr P fn n Q .ret env own ds:=
  Gd hs hr (fun F _ s=>(s.perm (t.perm.cons F)).sub (List.Sublist.cons_cons F (List.sublist_append_left _ _))) hq
theorem EI{c:Call}{x:Operand}{f:FuncId}{first captured:Array Value}{vs EL:List Value}{v:Value} [Enters P f]
    (ho:o.op= .call c) (hc:c.callee= .value x) (hx:ev env x=some (.func (.func f) first captured)) (IV:MU env c.args.toList=some vs)
    (Et:JK first.toList vs captured.toList=some EL) (h:C7 P f EL own v):Dc P (F::own) n o env v:=
  Ca ho hc hx IV Et h
end
end Go.SL
end
section
namespace Go.SL
open Go.Sort
theorem Sat.world{hs:List B6}{w w':World}(s:Sat hs w)(h:hle (wh w) (wh w')):Sat hs w':=⟨fun k hk=>(s.le k hk).trans h,s.dj⟩
theorem Yy(w:World)(gs:Array Obj):hle (wh w) (wh (grow w gs)):=by
  intro x o hx;cases x with
  | b n=>
    simp only [wh,Option.map_eq_some_iff] at hx ⊢
    obtain⟨y,h1,h2⟩:=hx;have Em:n<w.heap.size:=(Array.getElem?_eq_some_iff.1 h1).1;exact⟨y,by rw [heap_grow_old w gs Em];exact h1,h2⟩
  |os=>exact hx
  | fz n=>
    simp only [wh] at hx ⊢
    split at hx
    · rename_i Em
      rw [if_pos Aq,<-hx]
      congr 2
      funext off
      exact frozen?_grow w gs _ Em
    · cases hx
theorem OS.row{h:B6}{X:List B6}{w:World}{base:Option Addr}{len cap:Nat}{T:TypeId}{k:IntKind}{zs:List Int}(os:OS h base len cap T 1 (zs.map (.int k)))(Gr:0<len)(s:Sat (h::X) w):
    ∃ b off,base=some ⟨b,off,none⟩/\b<w.heap.size/\Holds (Value.int k) w b off zs.toArray/\
      ∀(ys:List Int) (n:Nat) (gs:Array Obj),ys.length=zs.length->∃h',OS h' base len cap T 1 (ys.map (.int k))/\Sat (h'::X) (grow (putRow (Value.int k) (Sort.ahead w n) b off ys.toArray) gs):=by
  have hl:=os.len;rcases os.shape with ⟨-,h2, -, -⟩|⟨b,off,arr,hb,hh,GH,L2⟩
  · omega
  · subst hh;have hg:w.heap[b]?=some (.cells arr T (0,0)):=s.at (List.mem_cons_self ..) (CT _ _);refine⟨b,off,hb,(Array.getElem?_eq_some_iff.1 hg).1,fun j hj=> ?_,fun ys n gs lI=> ?_⟩
    · have hj':j<zs.length:=by simpa using hj
      refine⟨?_,by rw [Mp hg];simp [Ou]⟩;rw [Gf hg];refine L2 j _ ?_;simp [hj']
    · have hle:=os.hle
      let arr':=putCells (Value.int k) off ys.toArray arr
      refine⟨SL.Co b (.cells arr' T (0,0)),⟨by simp [lI,hl],os.hle,.inr ⟨b,off,arr',hb,rfl,by simpa [arr',putCells] using GH,fun j v hj=> ?_⟩⟩,?_⟩
      · rw [List.getElem?_map,Option.map_eq_some_iff] at hj
        obtain⟨y,hy,rfl⟩:=hj;obtain⟨Zp,lL⟩:=List.getElem?_eq_some_iff.1 hy;have Em:off+j<arr.size:=by omega
        simp only [arr',putCells,Array.getElem?_mapIdx,Array.getElem?_eq_getElem Em,Option.map_some,List.size_toArray];rw [if_pos ⟨by omega,by omega⟩,show off+j - off=j by omega];simp [Zp,lL]
      · have s0:Sat (SL.Co b (.cells arr T (0,0))::X) (Sort.ahead w n):=s.heap rfl rfl rfl;have e:(putRow (Value.int k) (Sort.ahead w n) b off ys.toArray).heap=w.heap.modify b (onCells (putCells (Value.int k) off ys.toArray)):=rfl;refine Sat.world (w:=putRow (Value.int k) (Sort.ahead w n) b off ys.toArray) ?_ (Yy _ _);refine s0.put (o':= .cells arr' T (0,0)) ?_ rfl rfl (fun q hq=> ?_) (fun _=>rfl)
        · rw [e,Array.getElem?_modify,if_pos rfl,hg];rfl
        · rw [e,Array.getElem?_modify,if_neg (Ne.symm hq)];rfl
end Go.SL
end
