/- A step of a walk, with what kind of operation it is: all that must be looked at lies in one fact. -/
import Derived.Test.YtcnmnmjmpocepaaGreatDoorV04
import Derived.Test.YtcnmnmjmpocepaaGreatDoorV07
import Derived.Test.YtcnmnmjmpocepaaGreatDoorV06
import Derived.Test.YtcnmnmjmpocepaaGreatDoorV08
import Derived.Maps.RangeRun
import Derived.Below
import Derived.RangeFuncRecord
set_option linter.unusedVariables false
set_option linter.unusedSimpArgs false
set_option linter.unusedSectionVars false
set_option maxRecDepth 100000
set_option maxHeartbeats 16000000
section
namespace Go.SL
variable {P:Program} {r:Option Nat} {F:CA} {n:Nat} {Q:DD} {env:Env} {own:List CA} {ds:List Deferred} {q:Bool} {all:Array Oper} {l:List Oper} {o:Oper} {v:Value} {d:Nat} (i:Nat)
abbrev G4(i:Nat)(n:Nat)(env:Env)(all:Array Oper)(o:Oper)(d:Nat):Prop:=kindOf o.op=i/\o.dst=some d/\Nat.blt d n=true/\C6 all env o=some true
theorem Ct(e:G4 i n env all o d)(hv:DG P (F::own) n o env v)(h:DE q P r F n all l Q ((d,v)::env) own ds):DE q P r F n all (o::l) Q env own ds:=CW e.2.1 e.2.2.1 e.2.2.2 hv h
theorem CG(e:kindOf o.op=i/\o.dst=some d/\Nat.blt d n=true/\C6 all env o=some false/\EX o.op=true)(h:DE q P r F n all l Q ((d,undef)::env) own ds):DE q P r F n all (o::l) Q env own ds:=eW e.2.1 e.2.2.1 e.2.2.2.1 e.2.2.2.2 h
theorem CO{p:Prop} [Decidable p](e:G4 i n env all o d)(hv:DG P (F::own) n o env (.bool (decide p)))(hp:p)(h:DE q P r F n all l Q ((d,.bool true)::env) own ds):DE q P r F n all (o::l) Q env own ds:=aW e.2.1 e.2.2.1 e.2.2.2 hv hp h
theorem CY{p:Prop} [Decidable p](e:G4 i n env all o d)(hv:DG P (F::own) n o env (.bool (decide p)))(hp:¬p)(h:DE q P r F n all l Q ((d,.bool false)::env) own ds):DE q P r F n all (o::l) Q env own ds:=ic e.2.1 e.2.2.1 e.2.2.2 hv hp h
theorem G5{p:Prop} [Decidable p](e:G4 i n env all o d)(hv:DG P (F::own) n o env (.bool (decide p)))(h1:p->DE q P r F n all l Q ((d,.bool true)::env) own ds)(h2:¬p->DE q P r F n all l Q ((d,.bool false)::env) own ds):DE q P r F n all (o::l) Q env own ds:=lh e.2.1 e.2.2.1 e.2.2.2 hv h1 h2
theorem Ol{b:Bool}(e:G4 i n env all o d)(hv:DG P (F::own) n o env (.bool b))(h1:b=true->DE q P r F n all l Q ((d,.bool true)::env) own ds)(h2:b=false->DE q P r F n all l Q ((d,.bool false)::env) own ds):DE q P r F n all (o::l) Q env own ds:=fa e.2.1 e.2.2.1 e.2.2.2 hv h1 h2
section
variable {P:Program} {r:Option Nat} {F:CA} {n:Nat} {Q:DD} {env:Env} {own rest hs own':List CA} {ds:List Deferred} {all:Array Oper} {l:List Oper} {o:Oper} {id:Nat}
theorem CN{t T:TypeId}{x y:Operand}{b off:Nat}{v:Value}{cs vs cs':List Value}{d:TypeDesc}{z:Value}{ti:TypeInfo}
    (h:DE false P r F n all l Q env own' ds) (_:kindOf o.op=5:=by rfl) (hd:o.dst=none:=by rfl) (hg:C6 all env o=some true:=by rfl) (ho:o.op= .store t x y:=by rfl) (hx:ev env x=some (.pointer (some ⟨b,off,none⟩)):=by exact rfl) (hy:ev env y=some v:=by exact rfl)
    (hv:EA v=some vs:=by exact rfl) (ty:Ty P t d z ti:=by infer_instance) (Hs:vs.length=ti.size:=by exact rfl) (h1:vs.all (·.oneCell')=true:=by exact rfl) (m:At own b (.cells ⟨cs⟩ T (0,0)):=by infer_instance) (hc:F5 cs off vs=some cs':=by exact rfl) (pb:Wl own b (.cells ⟨cs⟩ T (0,0)) (.cells ⟨cs'⟩ T (0,0)) own':=by infer_instance):DE false P r F n all (o::l) Q env own ds:=PO hd hg ho hx hy hv Hs h1 hc h
theorem CT{d:Nat}{t:TypeId}{de:TypeDesc}{z:Value}{ti:TypeInfo}{cs:List Value}(h:∀b,DE false P r F n all l Q ((d,.pointer (some ⟨b,0,none⟩))::env) (CV b (.cells ⟨cs⟩ t (0,0))::own) ds)
    (_:kindOf o.op=5:=by rfl) (hd:o.dst=some d:=by rfl) (hn:Nat.blt d n=true:=by rfl) (hg:C6 all env o=some true:=by rfl) (ho:o.op= .alloc t:=by rfl) (ty:Ty P t de z ti:=by infer_instance) (hz:EA z=some cs:=by exact rfl):DE false P r F n all (o::l) Q env own ds:=bg hd hn hg ho hz h
theorem C2{d:Nat}{t:TypeId}{x:Operand}{v:Value}{cs:List Value}(h:∀b,DE false P r F n all l Q ((d,.pointer (some ⟨b,0,none⟩))::env) (CV b (.cells ⟨cs⟩ t (0,0))::own) ds)
    (_:kindOf o.op=5:=by rfl) (hd:o.dst=some d:=by rfl) (hn:Nat.blt d n=true:=by rfl) (hg:C6 all env o=some true:=by rfl) (ho:o.op= .box t x:=by rfl) (hx:ev env x=some v:=by exact rfl) (hz:EA v=some cs:=by exact rfl):DE false P r F n all (o::l) Q env own ds:=jd hd hn hg ho hx hz h
theorem CP{t e:TypeId}{sz bytes len:Nat}{ps:Array (Nat×Operand)}{qs:List (Nat×Value)}{zv:Value}{zc zs cs:List Value}{d:Nat}{de:TypeDesc}{ti:TypeInfo}
    (h:∀b,DE false P r F n all l Q ((d,.slice (some ⟨b,0,none⟩) len len)::env) (CV b (.cells ⟨cs⟩ e (0,0))::own) ds)
    (_:kindOf o.op=5:=by rfl) (hd:o.dst=some d:=by rfl) (hn:Nat.blt d n=true:=by rfl) (hg:C6 all env o=some true:=by rfl) (ho:o.op= .buildSlice t len ps:=by rfl) (hp:T7 env ps.toList=some qs:=by exact rfl)
    (g:NI P t e sz bytes:=by infer_instance) (z:Ty P e de zv ti:=by infer_instance) (Sq:EA zv=some zc:=by exact rfl) (Vv:zc.length=sz:=by exact rfl) (hz:WB len zc=some zs:=by exact rfl) (hb:Lp (fun i=>some (i*sz,sz)) zs qs=some cs:=by exact rfl) (Qv:Nat.ble (len*sz) 16777216=true:=by exact rfl):
    DE false P r F n all (o::l) Q env own ds:=Rk hd hn hg ho hp Sq Vv hz hb Qv h
theorem Cu{ops:Array Oper}(h:DE false P r F n ops l Q env own ds)(hl:ops.toList=l:=by rfl):DI P r F n (.region id ops false) Q env own ds:=Ze hl h
theorem CH{c:Operand}{x y:Code}(h1:DI P r F n x Q env own ds)(hc:ev env c=some (.bool true):=by rfl):DI P r F n (.cond c x y) Q env own ds:=aO hc h1
theorem CF{c:Operand}{x y:Code}(h1:DI P r F n y Q env own ds)(hc:ev env c=some (.bool false):=by rfl):DI P r F n (.cond c x y) Q env own ds:=Y7 hc h1
end
end Go.SL
end
section
namespace Go.SL
section
variable {P:Program} {r:Option Nat} {F:CA} {n:Nat} {Q:DD} {env:Env} {own rest hs Dk:List CA} {ds:List Deferred} {all:Array Oper} {l:List Oper} {o:Oper} {s:List Sg} {an:An} {ml:ML}
theorem VA{t e:TypeId}{sz bytes:Nat}{c:Call}{x y:Operand}{h hn:CA}{base yb:Option Addr}{len cap m mc:Nat}{cs news:List Value} [g:NI P t e sz bytes]
    (ho:o.op= .call c) (hc:c.callee= .builtin .append) (Jc:c.args= #[x,y]) (FD:c.argTypes= #[t,t])
    (hx:ev env x=some (.slice base len cap)) (hy:ev env y=some (.slice yb m mc)) (mm:Sl hn yb news) (os:OS h base len cap e sz cs)
    (Gt:news.length=m*sz) (GJ:0<sz) (h1:news.all (·.oneCell')=true) (FJ:(len+m)*bytes≤70368744177664) (hlen:len+m≤70368744177664):
    Et P [h,hn] n o env fun v own'=>∃h' D6 FA,v= .slice D6 (len+m) FA/\own'= [h',hn]/\OS h' D6 (len+m) FA e sz (cs++news):=by
  rcases Nat.eq_zero_or_pos m with hm|hm
  · subst hm;have ep:news= []:=List.length_eq_zero_iff.1 Ab;subst ep;refine⟨by rw [ho];rfl,fun A w X hA hs=> ?_⟩;obtain⟨i,z,g1,g2,g3,g4,g5,g6⟩:=g.all;refine⟨w,.inl ⟨.slice base len cap,[h,hn],?_,by simpa using hs,h,base,cap,rfl,rfl,by simpa using os⟩⟩;simp [execOp,ho,resolve,hc,Jc,FD,invoke,builtin,hA.eval hx,hA.eval hy,IC w g1 g2 os.hle]
  · cases yb with
    | none=>
      refine⟨by rw [ho];rfl,fun A w X hA hs=> ?_⟩;have hpos':0<news.length:=by rw [Gt];exact Nat.mul_pos hm GJ
      have mi:Ds [h,hn] none news:=⟨hn,by simp,mm⟩;obtain⟨a',e1, -⟩:=mi.cell hs (List.getElem?_eq_getElem hpos');cases e1
    |some a=>exact Qt ho hc Jc FD hx hy mm os hm Gt GJ h1 FJ hlen
theorem OY{m:Nat}{t e:TypeId}{sz bytes:Nat}{cl:Call}{x y:Operand}{hh hn:CA}{base yb:Option Addr}{len cap mm mc d:Nat}{cs news:List Value} [g:NI P t e sz bytes]
    (hi:all[m]?=some o) (hd:o.dst=some d) (hg:C6 all env o=some true)
    (ho:o.op= .call cl) (hc:cl.callee= .builtin .append) (Jc:cl.args= #[x,y]) (FD:cl.argTypes= #[t,t])
    (hx:ev env x=some (.slice base len cap)) (hy:ev env y=some (.slice yb mm mc)) (sa:Sl hn yb news) (os:OS hh base len cap e sz cs) [tk:Dx own [hh,hn] rest] {GB:List CA} [tp:Dx rest Dk GB]
    (Gt:news.length=mm*sz) (GJ:0<sz) (h1:news.all (·.oneCell')=true) (FJ:(len+mm)*bytes≤70368744177664) (hlen:len+mm≤70368744177664)
    (h:∀h' D6 FA,OS h' D6 (len+mm) FA e sz (cs++news)->D0 P r F n all Dk Q ds s ((d,.slice D6 (len+mm) FA)::env) (h'::hn::rest) an ml):D0 P r F n all Dk Q ds (.h true m::s) env own an ml:=
  OX hi hd hg (VA ho hc Jc FD hx hy sa os Gt GJ h1 FJ hlen) Lg (fun _=> .inl ⟨GB,tp.perm⟩) fun v own' hR=>by
    obtain⟨h',b',c',rfl,rfl,HS⟩:=hR;exact⟨_,rfl,h h' b' c' HS⟩
end
end Go.SL
end
section
namespace Go.SL
section
variable {P:Program} {own:List CA} {n:Nat} {env:Env} {o:Oper}
theorem JH{t:TypeId}{ms:Array (String×TypeId)}(h:P.underlying t=some (.interface ms))(x:Value)(b:Bool)(hx:x= .nilIface/\b=true∨(∃T v,x= .iface T v)/\b=false)(w:World):(Op.equal t x .nilIface).run P w= .ok b w:=by
  have h:(Op.equalIn 10000 t x .nilIface).run P w= .ok b w:=by
    rw [show(10000:Nat)=9999+1 from rfl,Op.equalIn];rcases hx with ⟨rfl,rfl⟩|⟨⟨T,v,rfl⟩,rfl⟩ <;>simp [Di h]
  exact h
theorem Zs{t u:TypeId}{ms:Array (String×TypeId)}{z:Value}{i:TypeInfo}{x:Operand} [ty:Ty P t (.interface ms) z i](ho:o.op= .binOp .eql t x (.const .nilIface) u)(hx:ev env x=some .nilIface):DG P own n o env (.bool true):=
  DC (by rw [ho];rfl) fun a w ha=>by
    have hg:(eqGuard .eql t x (.const .nilIface) .nilIface .nilIface).run P w= .ok () w:=by simp [eqGuard]
    have hy:a.eval (.const .nilIface)= .nilIface:=rfl;simp only [execOp,ho,ha.eval hx,hy];simp [hg,binOp,JH ty.u .nilIface true (.inl ⟨rfl,rfl⟩)]
theorem EV{t u:TypeId}{ms:Array (String×TypeId)}{z:Value}{i:TypeInfo}{x:Operand} [ty:Ty P t (.interface ms) z i](ho:o.op= .binOp .neq t x (.const .nilIface) u)(hx:ev env x=some .nilIface):DG P own n o env (.bool false):=
  DC (by rw [ho];rfl) fun a w ha=>by
    have hg:(eqGuard .neq t x (.const .nilIface) .nilIface .nilIface).run P w= .ok () w:=by simp [eqGuard]
    have hy:a.eval (.const .nilIface)= .nilIface:=rfl;simp only [execOp,ho,ha.eval hx,hy];simp [hg,binOp,JH ty.u .nilIface true (.inl ⟨rfl,rfl⟩)]
theorem E4{t u T:TypeId}{v:Value}{ms:Array (String×TypeId)}{z:Value}{i:TypeInfo}{x:Operand} [ty:Ty P t (.interface ms) z i](ho:o.op= .binOp .neq t x (.const .nilIface) u)(hx:ev env x=some (.iface T v)):DG P own n o env (.bool true):=
  DC (by rw [ho];rfl) fun a w ha=>by
    have hg:(eqGuard .neq t x (.const .nilIface) (.iface T v) .nilIface).run P w= .ok () w:=by simp [eqGuard]
    have hy:a.eval (.const .nilIface)= .nilIface:=rfl;simp only [execOp,ho,ha.eval hx,hy];simp [hg,binOp,JH ty.u (.iface T v) false (.inr ⟨⟨T,v,rfl⟩,rfl⟩)]
theorem R6{t:TypeId}{x:Operand}{k:Nat}{base:Option Addr}{cs:List Value}{v:Value} [ty:dR P t 1](ho:o.op= .load t x)(hx:ev env x=some (Rb base k))(m:Ds own base cs)(hv:cs[k]?=some v):DG P own n o env (.agg ⟨[v]⟩):=
  I5 (vs:= [v]) ho hx (Nat.succ_pos 0) rfl fun j w hj=>by
    match j,hj with
    |0,hj=>simp at hj;subst hj;exact hv
end
inductive LB (h:CA) (base:Option Addr) (len cap:Nat) (T:TypeId) (sz:Nat) (cs:List Value):Prop
  |os (s:OS h base len cap T sz cs)
  |full (s:Sl h base cs) (hl:cs.length=len*sz) (h1:cap=len) (h2:0<len)
theorem LB.sl{h:CA}{base:Option Addr}{len cap:Nat}{T:TypeId}{sz:Nat}{cs:List Value}(s:LB h base len cap T sz cs):Sl h base cs:=by
  cases s with
  |os s=>exact s.sl
  |full s=>exact s
theorem LB.hlen{h:CA}{base:Option Addr}{len cap:Nat}{T:TypeId}{sz:Nat}{cs:List Value}(s:LB h base len cap T sz cs):cs.length=len*sz:=by
  cases s with
  |os s=>exact s.hlen
  |full _ h=>exact h
theorem Zh{P:Program}{t ty e:TypeId}{i:TypeInfo}{z:Value}{h:CA}{base:Option Addr}{len cap m c:Nat}{cs news:List Value}{a:Addr}{hs:List CA}{w:World}
    (ht:P.underlying t=some (.slice e)) (hi:P.info? e=some i) (hz:i.zero=some z) (iu:z.cells.size=i.size)
    (lb:LB h base len cap e i.size cs) (s:Sat (h::hs) w) (hm:0<m) (hp:0<i.size) (hl:news.length=m*i.size) (hn:∀j v,news[j]?=some v->w.cell? (a.add j)=some v) (h1:∀v∈news,v.oneCell'=true)
    (FJ:(len+m)*i.bytes≤35184372088832) (hlen:len+m≤35184372088832):
    ∃h' D6 FA w',(Builtin.append_ #[t,t] ty #[.slice base len cap,.slice (some a) m c]).run P w= .ok (.slice D6 (len+m) FA) w'/\OS h' D6 (len+m) FA e i.size (cs++news)/\Sat (h'::hs) w':=by
  cases lb with
  |os os=>exact PS ht hi hz iu os s hm hl hn h1 Ab Ab
  | full sl Jt ZS GJ=>
    subst ZS;have hp0:0<cs.length:=by rw [Jt];exact Nat.mul_pos GJ hp
    have mi:Ds [h] base cs:=⟨h,by simp,sl⟩;obtain⟨ad,e1,e2, -⟩:=mi.cell (X:=hs) s (List.getElem?_eq_getElem hp0);obtain⟨bb,off,sp⟩:=ad;simp only at e2
    subst e2;subst e1;have hold:∀j v,cs[j]?=some v->w.cell? ((⟨bb,off,none⟩:Addr).add j)=some v:=fun j v hj=>by
      obtain⟨a',e3,e4,e5⟩:=mi.cell (X:=hs) s hj;cases e3;rw [Es];exact e5
    have iw:z.cells.size=i.size:=iu;have Gt:(cs++news).length=(cap+m)*i.size:=by rw [List.length_append,Jt,hl,Nat.add_mul]
    have Sq:∀k,(Builtin.zeroCells z.cells k).size=k*i.size:=fun k=>by simp [Builtin.zeroCells,iw]
    have hcapn:∀need old,need≤grownCap w need old e:=fun need old=>by simp [grownCap,Question.cut]
    have NP:=nextslicecap_le (need:=cap+m) (old:=cap) Ab;have FE:=run_append_grow (P:=P) w t ty e i z ht hi hz ⟨bb,off,none⟩ cap cap cs Jt hold a m c news hl hn Ab Ab (by
      have:Builtin.nextslicecap (cap+m) cap*i.bytes≤2*(cap+m)*i.bytes:=Nat.mul_le_mul_right _ NP;rw [Nat.mul_assoc] at this
      omega)
    have s2:Sat hs w.drew:=s.tail.heap rfl rfl rfl;refine⟨_,_,_,_,FE,⟨Gt,hcapn _ _,.inr ⟨w.heap.size,0,_,rfl,rfl,?_,fun k v hk=> ?_⟩⟩,EN s2 _ (fun _=>by simp [Pt])⟩
    · have hc:=hcapn (cap+m) cap;have:(cap+m)*i.size≤grownCap w (cap+m) cap e*i.size:=Nat.mul_le_mul_right _ hc;rw [Array.size_append,Sq,Array.size_append,List.size_toArray,List.size_toArray,Jt,hl,Nat.sub_mul,<-Nat.add_mul];omega
    · have E6:k<(cs++news).length:=(List.getElem?_eq_some_iff.1 hk).1;rw [Nat.zero_add,Array.getElem?_append_left (by simpa using E6)];rw [<-hk];simp
section
variable {P:Program} {r:Option Nat} {F:CA} {n:Nat} {Q:DD} {env:Env} {own rest hs:List CA} {ds:List Deferred} {all:Array Oper} {l:List Oper} {o:Oper}
end
end Go.SL
end
section
namespace Go.SL
section
variable {P:Program} {own:List CA} {n:Nat} {env:Env} {o:Oper}
theorem Vy{t e:TypeId}{sz bytes:Nat}{c:Call}{x y:Operand}{h hn:CA}{base:Option Addr}{len cap m mc:Nat}{cs news:List Value}{a:Addr} [g:NI P t e sz bytes]
    (ho:o.op= .call c) (hc:c.callee= .builtin .append) (Jc:c.args= #[x,y]) (FD:c.argTypes= #[t,t])
    (hx:ev env x=some (.slice base len cap)) (hy:ev env y=some (.slice (some a) m mc)) (mm:Sl hn (some a) news) (os:LB h base len cap e sz cs)
    (hm:0<m) (Gt:news.length=m*sz) (GJ:0<sz) (h1:news.all (·.oneCell')=true) (FJ:(len+m)*bytes≤35184372088832) (hlen:len+m≤35184372088832):
    Et P [h,hn] n o env fun v own'=>∃h' D6 FA,v= .slice D6 (len+m) FA/\own'= [h',hn]/\OS h' D6 (len+m) FA e sz (cs++news):=by
  refine⟨by rw [ho];rfl,fun A w X hA hs=> ?_⟩;obtain⟨i,z,g1,g2,g3,g4,g5,g6⟩:=g.all;subst g5;subst g6;have s2:Sat (h::hn::X) w:=by simpa using hs
  have Kr:∀j v,news[j]?=some v->w.cell? (a.add j)=some v:=fun j v hj=>by
    have mi:Ds [h,hn] (some a) news:=⟨hn,by simp,mm⟩;obtain⟨a',e1,e2,e3⟩:=mi.cell hs hj;cases e1;obtain⟨b,off,sp⟩:=a;simp only at e2
    subst e2;rw [Es];exact e3
  obtain⟨h',D6,FA,w',FE,HS,s3⟩:=Zh (P:=P) (ty:=o.type) (c:=mc) g1 g2 g3 g4 os s2 hm GJ Gt Kr (by simpa using h1) FJ hlen;refine⟨w',.inl ⟨.slice D6 (len+m) FA,[h',hn],?_,by simpa using s3,h',D6,FA,rfl,rfl,HS⟩⟩;simp [execOp,ho,resolve,hc,Jc,FD,invoke,builtin,hA.eval hx,hA.eval hy,FE]
end
section
variable {P:Program} {r:Option Nat} {F:CA} {n:Nat} {Dk:List CA} {Q:DD} {env:Env} {own rest hs:List CA} {ds:List Deferred} {all:Array Oper} {s:List Sg} {o:Oper} {an:An} {ml:ML}
theorem V5{m:Nat}{t e:TypeId}{sz bytes:Nat}{cl:Call}{x y:Operand}{hh hn:CA}{base:Option Addr}{len cap mm mc d:Nat}{cs news:List Value}{a:Addr} [g:NI P t e sz bytes]
    (hi:all[m]?=some o) (hd:o.dst=some d) (hg:C6 all env o=some true)
    (ho:o.op= .call cl) (hc:cl.callee= .builtin .append) (Jc:cl.args= #[x,y]) (FD:cl.argTypes= #[t,t])
    (hx:ev env x=some (.slice base len cap)) (hy:ev env y=some (.slice (some a) mm mc)) [sa:gU own (some a) hn news] (os:LB hh base len cap e sz cs) [tk:Dx own [hh,hn] rest] {GB:List CA} [tp:Dx rest Dk GB]
    (hm:0<mm) (Gt:news.length=mm*sz) (GJ:0<sz) (h1:news.all (·.oneCell')=true) (FJ:(len+mm)*bytes≤35184372088832) (hlen:len+mm≤35184372088832)
    (h:∀h' D6 FA,OS h' D6 (len+mm) FA e sz (cs++news)->D0 P r F n all Dk Q ds s ((d,.slice D6 (len+mm) FA)::env) (h'::hn::rest) an ml):D0 P r F n all Dk Q ds (.h true m::s) env own an ml:=
  OX hi hd hg (Vy ho hc Jc FD hx hy sa.sl os hm Gt GJ h1 FJ hlen) Lg (fun _=> .inl ⟨GB,tp.perm⟩) fun v own' hR=>by
    obtain⟨h',b',c',rfl,rfl,HS⟩:=hR;exact⟨_,rfl,h h' b' c' HS⟩
end
end Go.SL
end
section
namespace Go.SL
theorem Xz{P:Program}{n:Nat}{o:Oper}{env:Env}{t T:TypeId}{x y:Operand}{b k:Nat}{fz:Nat×Nat}{v:Value}{cs:List Value}{d:TypeDesc}{z:Value}{ti:TypeInfo} [ty:Ty P t d z ti]
    (ho:o.op= .store t x y) (hx:ev env x=some (Rb (some ⟨b,0,none⟩) k)) (hy:ev env y=some v) (hv:EA v=some [v]) (Hs:1=ti.size) (h1:v.oneCell'=true) (hk:k<cs.length) (hf:k<fz.1):
    Et P [CV b (.cells ⟨cs⟩ T fz)] n o env fun _ own'=>own'= [CV b (.cells ⟨cs.set k v⟩ T fz)]:=by
  refine⟨by rw [ho];rfl,fun a w X ha hs=> ?_⟩;have s1:Sat (CV b (.cells ⟨cs⟩ T fz)::X) w:=by simpa using hs
  have hb:w.heap[b]?=some (.cells ⟨cs⟩ T fz):=s1.at (List.mem_cons_self ..) (Dq _ _);have hadd:(⟨b,k,none⟩:Addr).add 0=⟨b,k,none⟩:=by unfold Addr.add;split <;>simp_all
  have hcell:w.cell? ⟨b,k,none⟩=some cs[k]:=by simp [World.cell?,hb,hk]
  have hfro:w.frozen? ⟨b,k,none⟩=false:=by
    rw [LM hb];obtain⟨lo,hi⟩:=fz;simp only at hf
    simp only [Pt,Bool.and_eq_false_iff,decide_eq_false_iff_not]
    left;omega
  have hset:(⟨cs⟩:Array Value).setIfInBounds k v=⟨cs.set k v⟩:=by apply Array.ext';simp
  have Gy:(storeCells ⟨b,k,none⟩ [v] 0).run P w= .ok () (w.setRow b ⟨cs.set k v⟩):=by
    have h2:(store ((⟨b,k,none⟩:Addr).add 0) v).run P w= .ok () (w.setRow b ⟨cs.set k v⟩):=by
      rw [hadd,run_store P w _ v _ h1,hcell];simp [hfro,setCell_eq_setRow w b k ⟨cs⟩ T fz v hb,hset]
    simp only [storeCells,Sem.run_bind,h2,Result.andThen_ok]
    rfl
  have ZT:=Fg hv;have FE:(execOp a.eval o).run P w= .ok .skip (w.setRow b ⟨cs.set k v⟩):=by
    simp [execOp,ho,Instr.storeAt,ha.eval hx,ha.eval hy,Rb,Instr.sureAddr,storeVar,Ej ty.i,ZT,<-Hs,Gy]
  refine⟨w.setRow b ⟨cs.set k v⟩,.inr (.inl ⟨_,FE,?_,rfl⟩)⟩;have s2:=s1.put (setRow_heap w b _ ⟨cs.set k v⟩ T fz hb) Av Av (fun k hk=>setRow_other w b k _ hk) (fun _=>rfl);simpa using s2
section
variable {P:Program} {r:Option Nat} {F:CA} {n:Nat} {Q:DD} {env:Env} {own rest hs Dk:List CA} {ds:List Deferred} {all:Array Oper} {l:List Oper} {o:Oper} {s:List Sg} {an:An} {ml:ML}
theorem QP{m:Nat}{t T:TypeId}{x y:Operand}{b k:Nat}{fz:Nat×Nat}{v:Value}{cs cs':List Value}{d:TypeDesc}{z:Value}{ti:TypeInfo} [ty:Ty P t d z ti]
    (hi:all[m]?=some o) (hl:OP all m=true) (hd:o.dst=none) (hg:C6 all env o=some true) (ho:o.op= .store t x y) (hx:ev env x=some (Rb (some ⟨b,0,none⟩) k)) (hy:ev env y=some v)
    (hv:EA v=some [v]) (Hs:1=ti.size) (h1:v.oneCell'=true) [at_:At own b (.cells ⟨cs⟩ T fz)] [tk:Dx own [CV b (.cells ⟨cs⟩ T fz)] rest] (hk:k<cs.length) (hf:k<fz.1) (hc:cs.set k v=cs')
    (h:D0 P r F n all Dk Q ds s env (CV b (.cells ⟨cs'⟩ T fz)::rest) an ml):D0 P r F n all Dk Q ds (.h true m::s) env own an ml:=
  Ua hi hd hg (Xz ho hx hy hv Hs h1 hk hf) Lg (fun _=> .inr hl) fun v' own' hR=>by
    subst hR;subst hc;exact⟨_,rfl,h⟩
end
end Go.SL
end
section
namespace Go.SL
section
variable (P:Program) (F:CA) (n:Nat) (all:Array Oper) (own:List CA) (nw:List Nat) (V:(Nat->Nat)->Nat->Value) (OB:(Nat->Nat)->Nat->Obj)
end
section
variable {P:Program} {F:CA} {n:Nat} {all:Array Oper} {own:List CA} {nw:List Nat} {V:(Nat->Nat)->Nat->Value} {OB:(Nat->Nat)->Nat->Obj} {bf:Nat->Nat} {Q:Env->Prop}
end
section
variable {P:Program} {F:CA} {n:Nat} {all:Array Oper} {own:List CA} {nw:List Nat} {V:(Nat->Nat)->Nat->Value} {OB:(Nat->Nat)->Nat->Obj} {bf:Nat->Nat} {Q:Env->Prop} {env:Env} {l:List Nat} {o:Oper}
end
end Go.SL
end
section
namespace Go.SL
open Go.ChangeMaps (setBlock)
section
variable {P:Program} {own:List CA} {n:Nat} {env:Env} {o:Oper}
end
section
variable {P:Program} {r:Option Nat} {F:CA} {n:Nat} {Q:DD} {env:Env} {own rest hs Dk:List CA} {ds:List Deferred} {all:Array Oper} {l:List Oper} {o:Oper}
end
end Go.SL
end
section
namespace Go.SL
section
variable {P:Program} {F:CA} {n:Nat} {Q:DD} {env:Env} {own rest hsI hk:List CA} {ds:List Deferred} {assign body:Code}
end
end Go.SL
end
section
namespace Go.SL
section
variable {α:Type} (P:Program) (F:CA) (n:Nat) (all:Array Oper) (own:List CA) (hv:List Nat) (V:(Nat->α)->Nat->Value) (B:Nat->List CA) (D:(Nat->α)->Nat->List CA)
end
section
variable {α:Type} {P:Program} {F:CA} {n:Nat} {all:Array Oper} {own:List CA} {hv:List Nat} {V:(Nat->α)->Nat->Value} {B:Nat->List CA} {D:(Nat->α)->Nat->List CA} {bf:Nat->α} {Q:Env->Prop}
end
section
variable {α:Type} {P:Program} {F:CA} {n:Nat} {all:Array Oper} {own:List CA} {hv:List Nat} {V:(Nat->α)->Nat->Value} {B:Nat->List CA} {D:(Nat->α)->Nat->List CA} {bf:Nat->α} {Q:Env->Prop} {env:Env} {l:List Nat} {o:Oper}
end
end Go.SL
end
section
namespace Go.SL
section
variable {P:Program} {own:List CA} {n:Nat} {env:Env} {o:Oper}
theorem Ho{t e:TypeId}{sz:Nat}{x y u:Operand}{base:Option Addr}{len cap:Nat}{k k2:IntKind}{j i:Int} [h1:OZ P t e sz](ho:o.op= .slice t x (some y) (some u) none)(hx:ev env x=some (.slice base len cap))(hy:ev env y=some (.int k j))(hu:ev env u=some (.int k2 i))
    (h0:0≤j) (hj:j≤i) (hi:i≤cap):DG P own n o env (.slice (sub base j.toNat cap sz) (i.toNat - j.toNat) (cap - j.toNat)):=
  DC (by rw [ho];rfl) fun a w ha=>by
    have hj':j≤(i.toNat:Int):=by omega
    have hi':(0:Int)≤i:=by omega
    simp [execOp,ho,ha.eval hx,ha.eval hy,ha.eval hu,Instr.sliceAt,Instr.slice,Instr.sliceBounds,Di h1.u,h1.s,Gm h0 hj',Gm hi' hi,sub]
end
end Go.SL
end
section
namespace Go.SL
theorem ZK{P:Program}{n:Nat}{o:Oper}{env:Env}{t t2 e:TypeId}{c:Call}{x y:Operand}{base:Option Addr}{len cap c2 sz:Nat}{own:List CA} [g:OZ P t e sz]
    (ho:o.op= .call c) (hc:c.callee= .builtin .copy) (Jc:c.args= #[x,y]) (FD:c.argTypes= #[t,t2]) (hx:ev env x=some (.slice base len cap)) (hy:ev env y=some (.slice none 0 c2)):
    Et P own n o env fun v own'=>v= .int .i64 0/\own'=own:=by
  refine⟨by rw [ho];rfl,fun a w X ha hs=> ?_⟩;have FE:(execOp a.eval o).run P w= .ok (.value (.int .i64 0)) w:=by
    simp only [execOp,ho];cases base <;>simp [resolve,hc,Jc,FD,invoke,builtin,Builtin.copy_,ha.eval hx,ha.eval hy,Di g.u,Builtin.lenOf,goInt,g.s,Builtin.firstCells,storeCells]
  exact⟨w,.inl ⟨_,own,FE,hs,rfl,rfl⟩⟩
section
variable {P:Program} {r:Option Nat} {F:CA} {n:Nat} {Q:DD} {env:Env} {own rest hs Dk:List CA} {ds:List Deferred} {all:Array Oper} {l:List Oper} {o:Oper} {s:List Sg} {an:An}
theorem aY{d:Nat}{t t2 e:TypeId}{c:Call}{x y:Operand}{base:Option Addr}{len cap c2 sz:Nat} [g:OZ P t e sz] [tk:Dx own [] rest]
    (hd:o.dst=some d) (gg:Nat.blt d n=true) (hg:C6 all env o=some true) (ho:o.op= .call c) (hc:c.callee= .builtin .copy) (Jc:c.args= #[x,y]) (FD:c.argTypes= #[t,t2]) (hx:ev env x=some (.slice base len cap)) (hy:ev env y=some (.slice none 0 c2))
    (next:DE false P r F n all l Q ((d,.int .i64 0)::env) rest ds):DE false P r F n all (o::l) Q env own ds:=
  Mn hd gg hg (ZK (own:= []) ho hc Jc FD hx hy) fun v' own' hR=>by
    obtain⟨rfl,rfl⟩:=hR;exact⟨_,rfl,next⟩
end
end Go.SL
end
section
namespace Go.SL
theorem join_assoc(h k l:CA):join (join h k) l=join h (join k l):=by
  funext b
  simp only [join];cases h b <;>rfl
theorem Nq:∀(a b:List CA),Da (a++b)=join (Da a) (Da b)
  | [],b=>by funext x;rfl
  | h::a,b=>by
    show join h (Da (a++b))=join (join h (Da a)) (Da b);rw [Nq a b,join_assoc]
theorem Xr(own Ws:List CA):Da (own++Ws)=Da (Da own::Ws):=Nq own Ws
theorem TE{own Ws:List CA}(h1:own.Pairwise Eo)(h:(Da own::Ws).Pairwise Eo):(own++Ws).Pairwise Eo:=by
  obtain⟨h2,h3⟩:=List.pairwise_cons.1 h;refine List.pairwise_append.2 ⟨h1,h3,fun k hk w hw=> ?_⟩;exact fun b o o' x y=>h2 w hw b o o' (Fe h1 hk b o x) y
section
variable {P:Program} {F:CA} {n:Nat} {Q:DD} {env:Env} {own rest hsI:List CA} {ds:List Deferred} {assign body:Code}
end
end Go.SL
end
section
namespace Go.SL
def iU{S:Type}(P:Program)(f:FuncId)(first captured:List Value)(hs:List CA)(s0:S)(view:S->CA->Prop)(nx:S->List Value->List CA->Prop)(tr mv:S->S->Prop)(dn:S->Prop):Prop:=
  ∀ (L:Nat) (J:S->CA->Prop) (Jd Jx:CA->Prop),
    (∀s H,J s H->view s H)->(∀s s' H,mv s s'->J s H->J s' H)->(∀s H,dn s->J s H->Jd H)->
    (∀s H x Ws,J s H->nx s x Ws->(H::Ws).Pairwise Eo->YT P L x (Da (H::Ws)) fun v H'=>(v= .bool true/\∃s',tr s s'/\J s' H')∨(v= .bool false/\Jx H'))->
    ∀H,J s0 H->T P f (first++ [.func (.yield L) #[] #[]]++captured) (H::hs) fun e own'=>e= .returned (.tuple #[])/\∃H',own'=H'::hs/\(Jd H'∨Jx H')
theorem Qq{P:Program}{n:Nat}{env:Env}{o:Oper}{c:Call}{x:Operand}{L:Nat}{vs:List Value}{H:CA}{Ws:List CA}{R:Value->CA->Prop}
    (ho:o.op= .call c) (hc:c.callee= .value x) (hx:ev env x=some (.func (.yield L) #[] #[])) (Ko:OW env c.args.toList=some vs)
    (h:(H::Ws).Pairwise Eo->YT P L vs (Da (H::Ws)) R):
    Et P (H::Ws) n o env fun v own'=>∃H2,own'= [H2]/\R v H2:=by
  refine⟨by rw [ho];rfl,fun a w X ha hs=> ?_⟩;have hd:(H::Ws).Pairwise Eo:=(List.pairwise_append.1 hs.dj).1;obtain⟨f,tmps,assign,body,h1,h2⟩:=h hd w X hs.Da;refine⟨w,.inr (.inr (.inr ⟨L,f,tmps,assign,body,(L1 ha ho hc hx Ko w).trans h1,fun r=>(h2 r).mono ?_⟩))⟩;rintro e MN ⟨v,H',he,s,hR⟩;exact⟨v,[H'],he,s,H',rfl,hR⟩
section
variable {P:Program} {F:CA} {n:Nat} {Q:DD} {env:Env} {own rest hsI:List CA} {ds:List Deferred} {assign body:Code}
theorem WQ{S:Type}{g:Operand}{ps:Array Tmp}{f:FuncId}{first captured:Array Value}{s0:S}{view:S->CA->Prop}{nx:S->List Value->List CA->Prop}{tr mv:S->S->Prop}{dn:S->Prop} [he:Enters P f] [t:Dx own hsI rest]
    (J:S->List CA->Prop) (Jd:List CA->Prop) (Jx:Code->List CA->Prop)
    (hg:ev env g=some (.func (.func f) first captured)) (hI:iU P f first.toList captured.toList hsI s0 view nx tr mv dn) (Yy:∀s H H',hle H H'->view s H->view s H')
    (au:ps.toList.all (fun p=>Nat.blt p n)=true) (h0:J s0 rest)
    (lP:∀s own1,J s own1->own1.Pairwise Eo->view s (Da own1)) (ZL:∀s s' own1,mv s s'->J s own1->J s' own1) (nk:∀s own1,dn s->J s own1->Jd own1)
    (MA:∀L s own1 x Ws,J s own1->nx s x Ws->x.length=ps.size/\∀F,∃Ll,Wa ps.toList x env=some Ll/\DI P (some L) F n assign (Re (fun J6 Dp gC=>∀F2,DI P (some L) F2 n body (MJ (fun o=>∃s',tr s s'/\J s' o) Jx) J6 Dp gC) fun _ _ _ _=>False) Ll (own1++Ws) [])
    (Le:∀D own1,Jd own1->∃Dp,IT own1 hsI=some Dp/\Q .normal env (CV D (.deferred (some []))::Dp) (mark D::ds))
    (Lb:∀D c own1,Jx c own1->∃Dp,IT own1 hsI=some Dp/\DI P none F n c Q env (CV D (.deferred (some []))::Dp) (mark D::ds)):
    DI P none F n (.rangeFunc g ps assign body) Q env own ds:=by
  have Le:∀D own1,Jd own1->Q .normal env (CV D (.deferred (some []))::(own1++hsI)) (mark D::ds):=fun D own1 hJ=>by
    obtain⟨Dp,e,h⟩:=Le D own1 hJ;rw [Gd e] at h;exact h
  have Lb:∀D c own1,Jx c own1->DI P none F n c Q env (CV D (.deferred (some []))::(own1++hsI)) (mark D::ds):=fun D c own1 hJ=>by
    obtain⟨Dp,e,h⟩:=Lb D c own1 hJ;rw [Gd e] at h;exact h
  intro a w ha hd hs;refine wpIn_rangeFunc fun fn _=> ?_
  let L:=w.heap.size+1
  let rc:Loop:={state:= .ready,pending:=none,fn,tmps:=a.tmps,params:=ps,assign,body,defers:=w.heap.size}
  let xv:Value:= .func (.yield L) #[] #[]
  let w1:=(w.alloc (.deferred (some []))).alloc (.loop rc)
  have Og:(resolve a.eval (rangeCall g L) 0).run P w1= .ok {target:= .fn (.func f) captured,args:=first++ #[xv]} w1:=by
    simp only [resolve,ha.eval hg,Deferred.ofValue,Sem.run_pure];simp [Act.eval,xv]
  have hinv:(invoke (.fn (.func f) captured) (first++ #[xv])).run P w1= .ok (.enter f (first++ #[xv]++captured)) w1:=he.run _ _;refine⟨L,[SL.mark w.heap.size],w1,{target:= .fn (.func f) captured,args:=first++ #[xv]},w1,f,first++ #[xv]++captured,w1,run_enterLoop_outer fn a.tmps ps assign body,Og,fun _ _=>by simp,hinv,fun hx=>by simp at hx,F0 _ ?_⟩;have e:first++ #[xv]++captured=(first.toList++ [xv]++captured.toList).toArray:=by apply Array.ext';simp
  rw [e];have sD:Sat (CV w.heap.size (.deferred (some []))::F::own) (w.alloc (.deferred (some []))):=EN hs _ (fun _=>rfl);have sL:Sat (CV L (.loop rc)::CV w.heap.size (.deferred (some []))::F::own) w1:=by
    have:=EN sD (.loop rc) (fun _=>rfl);rw [World.size_alloc] at this;exact this
  have sA:Sat ((CV L (.loop rc)::rest)++(hsI++ [CV w.heap.size (.deferred (some [])),F])) w1:=by
    refine sL.perm ((?_:List.Perm _ _).cons _);refine((t.perm.cons F).cons _).trans ?_;have p1:(CV w.heap.size (.deferred (some []))::F::(hsI++rest)).Perm ((hsI++rest)++ [CV w.heap.size (.deferred (some [])),F]):=List.perm_append_comm (l₁:= [CV w.heap.size (.deferred (some [])),F]) (l₂:=hsI++rest);refine p1.trans ?_;have p2:(hsI++rest).Perm (rest++hsI):=List.perm_append_comm;simpa [List.append_assoc] using p2.append_right [CV w.heap.size (.deferred (some [])),F]
  let lr:Loop->CA:=fun r=>CV L (.loop r)
  let JJ:S->CA->Prop:=fun s H=>∃own1,(lr rc::own1).Pairwise Eo/\H=Da (lr rc::own1)/\J s own1
  let JD:CA->Prop:=fun H=>∃own1,(lr rc::own1).Pairwise Eo/\H=Da (lr rc::own1)/\Jd own1
  let JX:CA->Prop:=fun H=>∃c own1,(lr {rc with state:= .done,pending:=some c}::own1).Pairwise Eo/\H=Da (lr {rc with state:= .done,pending:=some c}::own1)/\Jx c own1
  have hpn:∀p∈ps.toList,p<n:=fun p hp=>Nat.le_of_ble_eq_true (List.all_eq_true.1 au p hp)
  have hT:=hI L JJ JD JX (fun s H hJ=>by
      obtain⟨own1,Ks,rfl,hJ⟩:=hJ;exact Yy _ _ _ (Qu Ks) (lP s own1 hJ (List.pairwise_cons.1 Ks).2))
    (fun s s' H hm hJ=>by
      obtain⟨own1,Ks,rfl,hJ⟩:=hJ;exact⟨own1,Ks,rfl,ZL s s' own1 hm hJ⟩)
    (fun s H hd hJ=>by
      obtain⟨own1,Ks,rfl,hJ⟩:=hJ;exact⟨own1,Ks,rfl,nk s own1 hd hJ⟩)
    (fun s H x Ws hJ hx rQ=>by
      obtain⟨own1,Ks,rfl,hJ⟩:=hJ;obtain⟨h2,h3⟩:=MA L s own1 x Ws hJ hx;have hdA:(lr rc::(own1++Ws)).Pairwise Eo:=by
        have:=TE Ks rQ;simpa using this
      have e0:Da (Da (lr rc::own1)::Ws)=Da (lr rc::(own1++Ws)):=by
        rw [<-Xr];rfl
      rw [e0];have hy:=PB (rc:=rc) (HO ha) hpn h2 rfl hdA fun F=>by
        obtain⟨Ll,e,h⟩:=h3 F;rw [QU e] at h;exact h
      intro w X s;obtain⟨f2,tm,as,bd,g1,g2⟩:=hy w X s;refine⟨f2,tm,as,bd,g1,fun r=>(g2 r).mono ?_⟩;rintro e MN ⟨v,H',he2,s2,hR⟩;refine⟨v,H',he2,s2,?_⟩;rcases hR with ⟨rfl,Dp,T0,rfl,s',htr,hJ'⟩|⟨rfl,c,Dp,T0,rfl,hJ'⟩
      · exact .inl ⟨rfl,s',htr,Dp,T0,rfl,hJ'⟩
      · exact .inr ⟨rfl,c,Dp,T0,rfl,hJ'⟩) _ ⟨rest,(sA.sub (List.sublist_append_left _ _)).dj,rfl,h0⟩
  refine(hT w1 [CV w.heap.size (.deferred (some [])),F] (by simpa using sA.Da)).mono ?_;rintro e w3 ⟨own',s3,rfl,H',rfl,hJ⟩;have done:∀(r3:Loop) own1,(lr r3::own1).Pairwise Eo->H'=Da (lr r3::own1)->r3.state≠ .busy->
      ∃w4,(Instr.endLoop L).run P w3= .ok r3.pending w4/\Sat (F::(CV w.heap.size (.deferred (some []))::(own1++hsI))) w4:=by
    rintro r3 own1 Ks rfl Gy;have s4:Sat (lr r3::(own1++(hsI++ [CV w.heap.size (.deferred (some [])),F]))) w3:=by
      have:Sat (Da (lr r3::own1)::(hsI++ [CV w.heap.size (.deferred (some [])),F])) w3:=by simpa using s3
      simpa using this.IL Ks
    have hL3:w3.heap[L]?=some (.loop r3):=s4.at (List.mem_cons_self ..) (Dq _ _);refine⟨_,run_endLoop hL3 Gy,?_⟩;have s5:=(M3 (o':= .loop {r3 with state:= .exhausted}) s4 (fun _=>rfl)).tail;refine s5.perm ?_;have p1:((own1++hsI)++ [CV w.heap.size (.deferred (some [])),F]).Perm ([F,CV w.heap.size (.deferred (some []))]++(own1++hsI)):=
      List.perm_append_comm.trans ((List.Perm.swap F _ []).append_right _)
    simpa [List.append_assoc] using p1
  rcases hJ with ⟨own1,Ks,hH,hJ⟩|⟨c,own1,Ks,hH,hJ⟩
  · obtain⟨w4,h1,h2⟩:=done rc own1 Ks hH (by simp [rc]);refine⟨none,w4,h1,?_⟩;exact H9.mk (ds:=SL.mark w.heap.size::ds) Am (HO ha) (by simp [hd]) h2 (Le _ _ hJ)
  · obtain⟨w4,h1,h2⟩:=done _ own1 Ks hH Am;refine⟨some c,w4,h1,?_⟩;exact Lb _ _ _ hJ _ w4 (HO ha) (by simp [hd]) h2
end
end Go.SL
end
section
namespace Go.SL
theorem ZE{K K2:CA}(h:hle K K2):Da [K,diff K2 K]=K2:=by
  funext x
  simp only [Da,join,emp,diff];cases hk:K x with
  |some o=>exact(h x o hk).symm
  |none=>dsimp only;cases K2 x <;>rfl
theorem dS{P:Program}{f:FuncId}{args:List Value}{K K2:CA}{R:Ending->CA->Prop}
    (h:T P f args [K] fun e o=>∃K',o= [K']/\hle K K'/\R e K') (hk:hle K K2):T P f args [K2] fun e o=>∃Kn K',o= [K2,Kn]/\(∀K3,hle K K3->hle Kn K3->hle K' K3)/\R e K':=by
  intro w X s;have s1:Sat ([K]++(diff K2 K::X)) w:=by simpa using M4 hk (by simpa using s)
  refine(h w (diff K2 K::X) s1).mono ?_;rintro e w' ⟨o,s2,K',rfl,hK,hR⟩;have s3:Sat (K::diff K' K::diff K2 K::X) w':=M4 hK (by simpa using s2);have s4:Sat ([K,diff K2 K]++(diff K' K::X)) w':=s3.perm (by simpa using List.Perm.swap _ _ _);have s5:=s4.Da;rw [ZE hk] at s5
  exact⟨[K2,diff K' K],by simpa using s5,diff K' K,K',rfl,fun K3 h1 h2=>VC h1 h2 hK,hR⟩
section
variable {P:Program} {r:Option Nat} {F:CA} {n:Nat} {Q:DD} {env:Env} {own own':List CA} {ds:List Deferred} {c:Code}
theorem Pg(hh:∀w,Sat (F::own) w->Sat (F::own') w)(h:DI P r F n c Q env own' ds):DI P r F n c Q env own ds:=
  fun a w ha hd s=>h a w ha hd (hh w s)
theorem UJ{K6 rest Ws:List CA}(p:own.Perm (K6++rest)):∀w,Sat (F::(own++Ws)) w->Sat (F::(K6++Ws)) w:=fun w s=>by
  have p2:(own++Ws).Perm ((K6++Ws)++rest):=by
    refine(p.append_right Ws).trans ?_;rw [List.append_assoc,List.append_assoc];exact List.Perm.append_left K6 List.perm_append_comm
  exact(s.perm (p2.cons F)).sub (List.Sublist.cons_cons F (List.sublist_append_left _ _))
end
end Go.SL
end
section
namespace Go.SL
structure Gx(ds:List Deferred)(M:CA):Prop where
  out:∀r,Marks ds (M::r) r
theorem Gx.nil:Gx [] emp:=⟨fun _=>⟨fun _ s h=>h _ s.tail⟩⟩
theorem Vq(h k:CA):Da [h,k]=join h k:=by
  funext x
  simp only [Da,join,emp]
  split <;>rename_i q
  · rfl
  · cases k x <;>rfl
theorem Gx.cons{ds:List Deferred}{M:CA}{D:Nat}(h:Gx ds M)(d:Eo (CV D (.deferred (some []))) M):Gx (mark D::ds) (join (CV D (.deferred (some []))) M):=
  ⟨fun r=>⟨fun{P fn tmps R m w X} hm s hk=>by
    have s2:Sat ([CV D (.deferred (some [])),M]++(r++X)) w:=Sat.IL (List.pairwise_cons.2 ⟨fun k hk=>by rw [List.mem_singleton.1 hk];exact d,List.pairwise_singleton _ _⟩) (by rw [Vq];exact s);obtain⟨w',h1,h2⟩:=UL (P:=P) (hs:=M::(r++X)) s2;exact⟨hm,.inl ⟨D,w',rfl,h1,(h.out r).out hm (X:=X) h2 hk⟩⟩⟩⟩
theorem VL{P:Program}{fn:Func}{n:Nat}{env:Env}{ds:List Deferred}{M:CA}{own own1 rest:List CA}(hm:Gx ds M)(hs:List CA){v:Value}{Q:Ending->List CA->Prop} [t1:Mg own M own1] [t:Dx own1 hs rest](hr:IK P fn.results.toList own1 env n v)(hq:Q (.returned v) hs):Mf P fn n Q .ret env own ds:=
  ⟨v,own1,hs,⟨fun{P fn tmps R u w X} hu s h=>(hm.out own1).out hu (X:=X) (s.perm (t1.perm.append_right X)) h⟩,hr,fun F _ s=>(s.perm (t.perm.cons F)).sub (List.Sublist.cons_cons F (List.sublist_append_left _ _)),hq⟩
section
variable {P:Program} {r:Option Nat} {F:CA} {n:Nat} {Q:DD} {env:Env} {own rest own':List CA} {ds:List Deferred}
theorem Ut{c:Code}{D:Nat}{M:CA}(hm:Gx ds M)(hp:own.Perm (M::own'))(h:∀M',Gx (mark D::ds) M'->DI P r F n c Q env (M'::own') (mark D::ds)):
    DI P r F n c Q env (CV D (.deferred (some []))::own) (mark D::ds):=fun a w ha hd s=>by
  have s1:Sat ([CV D (.deferred (some [])),M]++(F::own')) w:=s.perm (by
    refine(List.Perm.swap _ _ _).trans (List.Perm.cons _ ?_);exact(hp.cons F).trans (List.Perm.swap _ _ _))
  have d:Eo (CV D (.deferred (some []))) M:=(List.pairwise_cons.1 s1.dj).1 M Am;have s2:=s1.Da;rw [Vq] at s2
  exact h _ (hm.cons d) a w ha hd s2.swap
theorem Y2{c:Code}{D:Nat}{M:CA}{tl rest:List CA}(hm:Gx ds M)(hp:own.Perm ((M::tl)++rest))(h:∀M',Gx (mark D::ds) M'->DI P r F n c Q env (M'::tl) (mark D::ds)):
    DI P r F n c Q env (CV D (.deferred (some []))::own) (mark D::ds):=
  Ut hm (own':=tl++rest) (by simpa using hp) fun M' h'=>Pg (fun w s=>s.sub (by
    rw [<-List.cons_append,<-List.cons_append];exact List.sublist_append_left _ _)) (h M' h')
theorem Y3{c:Code}(I:Env->List CA->List Deferred->Nat->Prop)(m:Nat)
    (round:∀env own ds m,I env own ds m->DI P r F n c (Re (fun env' own' ay=>∃J6 Dp m',m'<m/\Sub J6 env'/\(∀w,Sat (F::own') w->Sat (F::Dp) w)/\I J6 Dp ay m') Q) env own ds)
    (h0:I env own ds m):DI P r F n (.loop c) Q env own ds:=by
  intro a w ha hd hs
  let J:Act->World->Nat->Prop:=fun a w m=>∃env own,Has n env a/\Sat (F::own) w/\I env own a.defers m
  have hJ:J a w m:=⟨env,own,ha,hs,by rw [hd];exact h0⟩
  classical
  let μ:Act->World->Nat:=fun a w=>if h:∃m,J a w m then Classical.choose (Oc h) else 0
  have hμ:∀ {a w} (h:∃m,J a w m),J a w (μ a w):=fun{a w} h=>by
    simp only [μ,dif_pos h];exact(Classical.choose_spec (Oc h)).1
  have hle:∀ {a w m},J a w m->μ a w≤m:=fun{a w m} h=>by
    have hx:∃m,J a w m:=⟨m,h⟩;simp only [μ,dif_pos hx];exact(Classical.choose_spec (Oc hx)).2 m h
  refine wpIn_loop (fun a w=>∃m,J a w m) μ ⟨m,hJ⟩ (fun a w h=> ?_);obtain⟨env',own',h1,h2,h3⟩:=hμ h;refine wpIn_mono (round env' own' _ _ h3 a w h1 rfl h2) fun e a' w' ⟨he,env'',own'',g1,g2,g3⟩=> ?_
  cases e with
  | normal=>
    obtain⟨J6,Dp,m',E6,KO,Vw,hI⟩:=g3;have hj:J a' w' m':=⟨J6,Dp,g1.weaken KO,Vw w' g2,hI⟩;exact⟨⟨m',hj⟩,Nat.lt_of_le_of_lt (hle hj) E6⟩
  |outgrown=>exact absurd rfl he
  |_=>exact⟨he,env'',own'',g1,g2,g3⟩
theorem Y4{S:Type}(E:S->Env)(O:S->List CA)(I:S->Prop)(μ:S->Nat){c:Code}(s0:S) [t:Dx own (O s0) rest]
    (he:Sub (E s0) env) (hI:I s0)
    (round:∀s ds M,Gx ds M->I s->DI P r F n c (Re (fun env' own' ay=>∃s' M',Gx ay M'/\(Sub (E s') env'/\∀w,Sat (F::own') w->Sat (F::M'::O s') w)/\I s'/\μ s'<μ s) Q) (E s) (M::O s) ds):
    DI P r F n (.loop c) Q env own []:=by
  refine DI.weaken (env':=E s0) (own':=O s0) he (fun w s=>(s.perm (t.perm.cons F)).sub (List.Sublist.cons_cons F (List.sublist_append_left _ _))) ?_;refine DH ?_;refine Y3 (fun env own ds m=>∃s M,env=E s/\own=M::O s/\m=μ s/\Gx ds M/\I s) (μ s0) ?_ ⟨s0,emp,rfl,rfl,rfl,Gx.nil,hI⟩;rintro env own ds m ⟨s,M,rfl,rfl,rfl,hm,hs⟩;refine(round s ds M hm hs).mono fun e env own ds h=> ?_
  cases e with
  | normal=>
    obtain⟨s',M',h1,⟨h2,h3⟩,h4,h5⟩:=h;exact⟨E s',M'::O s',μ s',h5,h2,h3,s',M',rfl,rfl,rfl,h1,h4⟩
  |_=>exact h
end
end Go.SL
end
section
namespace Go.SL
section
variable {P:Program} {Fn:Fence} {m:Nat} {b:Frame} {a:Act} {k:List Item} {cs:List Frame} {w:World} {QA:Exit->Act->World->Prop}
theorem GN{c:Code}:step P (lone (b.atR a (.code (.scope c)::k)) cs w)= .next (lone (b.atR a (.code c:: .inScope c::k)) cs w):=
  step_lone_go (by simp [Go.stepG,Go.stepG.exec,Frame.atR])
theorem PM{c:Code}:step P (lone (b.atR a (.inScope c::k)) cs w)= .next (lone (b.atR a k) cs w):=
  step_lone_go (by simp [Go.stepG,Go.stepG.exec,Frame.atR])
theorem Uq{c:Code}(h:c.wpIn Fn m P (fun e a w=>(∀l,e≠ .goto l)/\QA e a w) a w):(Code.scope c).wpIn Fn m P QA a w:=by
  intro b k cs rC hb hr;have h0:(lone (b.atR a (.code (.scope c)::k)) cs w).fenced P Fn:=fenced_calm hb hr rfl;obtain⟨e,XP,Rh,⟨hn,hq⟩,harr⟩:=h b (.inScope c::k) cs rC hb hr;cases e with
  |normal=>exact⟨.normal,XP,Rh,hq,.head h0 GN (StepsIn.trans harr (.one (fenced_calm hb hr rfl) PM))⟩
  | exit id'=>
    have hx:exitTo id' (.inScope c::k)=exitTo id' k:=by simp [exitTo]
    exact⟨.exit id',XP,Rh,hq,fun k' hk=> .head h0 GN (harr.1 k' (by rw [hx];exact hk)),
      fun Ss hk=>let ⟨k₁,h1,h2⟩:=harr.2 Ss (by rw [hx];exact hk);⟨k₁,h1,.head h0 GN h2⟩⟩
  |goto l=>exact(hn l rfl).elim
  |ret=>exact⟨_,XP,Rh,hq,.of_steps (.one h0 GN) harr⟩
  |panic ch=>exact⟨_,XP,Rh,hq,.of_steps (.one h0 GN) harr⟩
  |outgrown=>exact⟨_,XP,Rh,hq,.of_steps (.one h0 GN) harr⟩
end
theorem WN{P:Program}{n:Nat}{r:Option Nat}{F:CA}{c:Code}{Q:DD}{env:Env}{own:List CA}{ds:List Deferred}(h:DI P r F n c (fun e env own ds=>(∀l,e≠ .goto l)/\Q e env own ds) env own ds):DI P r F n (.scope c) Q env own ds:=
  fun a w ha hd hs=>Uq (wpIn_mono (h a w ha hd hs) fun e a' w' ⟨he,env',own',h1,h2,h3,h4⟩=>⟨h3,he,env',own',h1,h2,h4⟩)
end Go.SL
end
