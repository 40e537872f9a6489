
import Derived.Test.YtcnmnmjmpocepaaGreatDoorU02
import Derived.LoopNIn
set_option linter.unusedVariables false
set_option linter.unusedSimpArgs false
set_option linter.unusedSectionVars false
set_option maxRecDepth 100000
set_option maxHeartbeats 16000000
section
namespace Go.SL
def C6(q:Bool)(P:Program)(r:Option Nat)(F:B6)(n:Nat)(all:Array Oper)(rest:List Oper)(Q:C4)(env:Env)(own:List B6)(ds:List Deferred):Prop:=
  ∀l:List Nat,l.map (fun i=>all[i]?)=rest.map some->SO q P r F n all l Q env own ds
theorem VP{all:Array Oper}{o:Oper}{rest:List Oper}{l:List Nat}(h:l.map (fun i=>all[i]?)=(o::rest).map some):
    ∃i l',l=i::l'/\all[i]?=some o/\l'.map (fun i=>all[i]?)=rest.map some:=by
  cases l with
  |nil=>cases h
  |cons i l'=>simp only [List.map_cons,List.cons.injEq] at h;exact⟨i,l',rfl,h.1,h.2⟩
theorem PF(all:Array Oper):(List.range all.size).map (fun i=>all[i]?)=all.toList.map some:=by
  apply List.ext_getElem?;intro i;simp only [List.getElem?_map];by_cases h:i<all.size
  · simp [h]
  · simp [h]
section
variable {P:Program} {r:Option Nat} {F:B6} {n:Nat} {Q:C4} {env:Env} {own rest hs own':List B6} {ds:List Deferred} {q:Bool} {all:Array Oper} {l:List Oper} {o:Oper} {K:Env->List B6->List Deferred->Prop} {id:Nat}
theorem V9{ops:Array Oper}(hl:ops.toList=l)(h:C6 false P r F n ops l Q env own ds):Db P r F n (.region id ops false) Q env own ds:=
  TS rfl (h _ (hl▸PF ops))
theorem C5{ops:Array Oper}(Jf:WW ops=true)(fp:VF ops=true)(hl:ops.toList=l)(h:C6 true P r F n ops l Q env own ds):Db P r F n (.region id ops true) Q env own ds:=
  Xu Jf fp rfl (h _ (hl▸PF ops))
theorem B5(h:Q .normal env own ds):C6 q P r F n all [] Q env own ds:=fun l hl=>by
  cases l with
  |nil=>exact b7 h
  |cons i l=>cases hl
theorem Cq{v:Value}{d:Nat}(hd:o.dst=some d)(hn:Nat.blt d n=true)(hg:Cy all env o=some true)(hv:Dc P (F::own) n o env v)
    (h:C6 q P r F n all l Q ((d,v)::env) own ds):C6 q P r F n all (o::l) Q env own ds:=fun k hk=>by
  obtain⟨i,k',rfl,hi,Mm⟩:=VP hk;exact ew hi hd (Nat.le_of_ble_eq_true hn) hg hv (h k' Mm)
theorem ZC{d:Nat}(hd:o.dst=some d)(hn:Nat.blt d n=true)(hg:Cy all env o=some false)(hp:Ek o.op=true)
    (h:C6 q P r F n all l Q ((d,undef)::env) own ds):C6 q P r F n all (o::l) Q env own ds:=fun k hk=>by
  obtain⟨i,k',rfl,hi,Mm⟩:=VP hk;exact ZA hi hd (Nat.le_of_ble_eq_true hn) hg hp (h k' Mm)
theorem ZG{b:Bool}{d:Nat}(hd:o.dst=some d)(hn:Nat.blt d n=true)(hg:Cy all env o=some true)(hv:Dc P (F::own) n o env (.bool b))
    (h1:b=true->C6 q P r F n all l Q ((d,.bool true)::env) own ds) (h2:b=false->C6 q P r F n all l Q ((d,.bool false)::env) own ds):C6 q P r F n all (o::l) Q env own ds:=by
  cases b
  · exact Cq hd hn hg hv (h2 rfl)
  · exact Cq hd hn hg hv (h1 rfl)
theorem XE{p:Prop} [Decidable p]{d:Nat}(hd:o.dst=some d)(hn:Nat.blt d n=true)(hg:Cy all env o=some true)(hv:Dc P (F::own) n o env (.bool (decide p)))
    (hp:p) (h:C6 q P r F n all l Q ((d,.bool true)::env) own ds):C6 q P r F n all (o::l) Q env own ds:=
  Cq hd hn hg hv (by rw [decide_eq_true hp];exact h)
theorem aS{p:Prop} [Decidable p]{d:Nat}(hd:o.dst=some d)(hn:Nat.blt d n=true)(hg:Cy all env o=some true)(hv:Dc P (F::own) n o env (.bool (decide p)))
    (hp:¬p) (h:C6 q P r F n all l Q ((d,.bool false)::env) own ds):C6 q P r F n all (o::l) Q env own ds:=
  Cq hd hn hg hv (by rw [decide_eq_false hp];exact h)
theorem ey{p:Prop} [Decidable p]{d:Nat}(hd:o.dst=some d)(hn:Nat.blt d n=true)(hg:Cy all env o=some true)(hv:Dc P (F::own) n o env (.bool (decide p)))
    (h1:p->C6 q P r F n all l Q ((d,.bool true)::env) own ds) (h2:¬p->C6 q P r F n all l Q ((d,.bool false)::env) own ds):C6 q P r F n all (o::l) Q env own ds:=by
  by_cases hp:p
  · exact XE hd hn hg hv hp (h1 hp)
  · exact aS hd hn hg hv hp (h2 hp)
theorem XK{d:Nat}{t:TypeId}{de:TypeDesc}{z:Value}{ti:TypeInfo}{cs:List Value} [ty:Ty P t de z ti](hd:o.dst=some d)(hn:Nat.blt d n=true)(hg:Cy all env o=some true)(ho:o.op= .alloc t)(hz:D9 z=some cs)
    (h:∀b,C6 false P r F n all l Q ((d,.pointer (some ⟨b,0,none⟩))::env) (Co b (.cells ⟨cs⟩ t (0,0))::own) ds):C6 false P r F n all (o::l) Q env own ds:=fun k hk=>by
  obtain⟨i,k',rfl,hi,Mm⟩:=VP hk;exact XC hi hd (Nat.le_of_ble_eq_true hn) hg ho hz (fun b=>h b k' Mm)
theorem b9{d:Nat}{t:TypeId}{x:Operand}{v:Value}{cs:List Value}(hd:o.dst=some d)(hn:Nat.blt d n=true)(hg:Cy all env o=some true)(ho:o.op= .box t x)(hx:ev env x=some v)(hz:D9 v=some cs)
    (h:∀b,C6 false P r F n all l Q ((d,.pointer (some ⟨b,0,none⟩))::env) (Co b (.cells ⟨cs⟩ t (0,0))::own) ds):C6 false P r F n all (o::l) Q env own ds:=fun k hk=>by
  obtain⟨i,k',rfl,hi,Mm⟩:=VP hk;exact b8 hi hd (Nat.le_of_ble_eq_true hn) hg ho hx hz (fun b=>h b k' Mm)
theorem NG{t T:TypeId}{x y:Operand}{b off:Nat}{v:Value}{cs vs cs':List Value}{d:TypeDesc}{z:Value}{ti:TypeInfo} [ty:Ty P t d z ti]
    (hd:o.dst=none) (hg:Cy all env o=some true) (ho:o.op= .store t x y) (hx:ev env x=some (.pointer (some ⟨b,off,none⟩))) (hy:ev env y=some v)
    (hv:D9 v=some vs) (GH:vs.length=ti.size) (h1:vs.all (·.oneCell')=true) [m:At own b (.cells ⟨cs⟩ T (0,0))] (hc:Fe cs off vs=some cs') [pb:Tt own b (.cells ⟨cs⟩ T (0,0)) (.cells ⟨cs'⟩ T (0,0)) own']
    (h:C6 false P r F n all l Q env own' ds):C6 false P r F n all (o::l) Q env own ds:=fun k hk=>by
  obtain⟨i,k',rfl,hi,Mm⟩:=VP hk;exact XA hi hd hg ho hx hy hv GH h1 hc (h k' Mm)
theorem Ev{c:Call}{x:Operand}{f:FuncId}{first captured:Array Value}{vs EL:List Value}{R:Ending->List B6->Prop} [Enters P f] [t:C1 own hs rest]{d:Nat}
    (hd:o.dst=some d) (hn:Nat.blt d n=true) (hg:Cy all env o=some true)
    (ho:o.op= .call c) (hc:c.callee= .value x) (hx:ev env x=some (.func (.func f) first captured)) (IV:MU env c.args.toList=some vs)
    (Et:JK first.toList vs captured.toList=some EL) (h:T P f EL hs R)
    (hr:∀e own',R e own'->(∃v,e= .returned v/\C6 false P r F n all l Q ((d,v)::env) (own'++rest) ds)∨(∃ch,e= .panicked ch/\Q (.panic ch) env (own'++rest) ds)):
    C6 false P r F n all (o::l) Q env own ds:=fun k hk=>by
  obtain⟨i,k',rfl,hi,Mm⟩:=VP hk;exact ZB hi hd (Nat.le_of_ble_eq_true hn) hg ho hc hx IV (Nq Et) h fun e own' hR=>(hr e own' hR).imp (fun⟨v,h1,h2⟩=>⟨v,h1,h2 k' Mm⟩) _root_.id
theorem B8(h:K env own ds):Qj K Q .normal env own ds:=h
theorem Cx(h:Q .ret env own ds):Qj K Q .ret env own ds:=h
theorem Fl{id:Nat}(h:Q (.exit id) env own ds):Qj K Q (.exit id) env own ds:=h
theorem C9{ch:List PanicEntry}(h:Q (.panic ch) env own ds):Qj K Q (.panic ch) env own ds:=h
theorem H4{id:Nat}(h:Q .normal env own ds):dH id Q .normal env own ds:=h
theorem Dd{id:Nat}(h:Q .ret env own ds):dH id Q .ret env own ds:=h
theorem JY{id:Nat}{ch:List PanicEntry}(h:Q (.panic ch) env own ds):dH id Q (.panic ch) env own ds:=h
theorem Fp{id:Nat}(h:Q .normal env own ds):dH id Q (.exit id) env own ds:=by simp only [dH,if_true];exact h
end
theorem Cr{P:Program}{fn:Func}{n:Nat}{own own1 hs rest:List B6}{ds:List Deferred}{env:Env}{v v':Value} [m:Marks ds own own1] [t:C1 own1 hs rest](hr:Hj P fn.results.toList own1 env n v')(hv:v'=v):
    Kr P fn n (fun e own'=>e= .returned v/\own'=hs) .ret env own ds:=
  ⟨v',own1,hs,m,hr,fun F _ s=>(s.perm (t.perm.cons F)).sub (List.Sublist.cons_cons F (List.sublist_append_left _ _)),by rw [hv],rfl⟩
theorem GB{P:Program}{fn:Func}{n:Nat}{own own1 rest:List B6}(hs:List B6){ds:List Deferred}{env:Env}{v:Value}{Q:Ending->List B6->Prop} [m:Marks ds own own1] [t:C1 own1 hs rest](hr:Hj P fn.results.toList own1 env n v)(hq:Q (.returned v) hs):
    Kr P fn n Q .normal env own ds:=
  ⟨v,own1,hs,m,hr,fun F _ s=>(s.perm (t.perm.cons F)).sub (List.Sublist.cons_cons F (List.sublist_append_left _ _)),hq⟩
theorem Ci{P:Program}{f:FuncId}{fn:Func}{c:Code}{args:List Value}{hs:List B6}{v:Value}(hf:P.funcs[f]?=some fn)(hb:fn.body=some c)
    (hn:args.length≤fn.ntmps) (h:∀F,Db P none F fn.ntmps c (Kr P fn fn.ntmps fun e own=>e= .returned v/\own=hs) (params args 0) hs []):C7 P f args hs v:=Ch hf hb hn h
theorem C7.to{P:Program}{f:FuncId}{args:List Value}{hs:List B6}{v v':Value}(h:C7 P f args hs v)(e:v=v'):C7 P f args hs v':=e▸h
theorem C7.T{P:Program}{f:FuncId}{args:List Value}{hs:List B6}{v:Value}(h:C7 P f args hs v):SL.T P f args hs fun e own=>e= .returned v/\own=hs:=h
end Go.SL
end
section
namespace Go.SL
def Q7(base:Option Addr)(k:Nat):Value:= .pointer (base.map fun a=>⟨a.block,a.off+k,none⟩)
class Sl (h:B6) (base:Option Addr) (cs:outParam (List Value)):Prop where
  cell:∀k v,cs[k]?=some v->∃a arr T fz,base=some a/\a.spot=none/\h (.b a.block)=some (.o (.cells arr T fz))/\arr[a.off+k]?=some v
instance Sl.Co{b:Nat}{cs:List Value}{T:TypeId}{fz:Nat×Nat}:Sl (Co b (.cells ⟨cs⟩ T fz)) (some ⟨b,0,none⟩) cs:=
  ⟨fun k v hk=>⟨⟨b,0,none⟩,⟨cs⟩,T,fz,rfl,rfl,CT _ _,by simpa using hk⟩⟩
class C0 (own:List B6) (base:Option Addr) (cs:outParam (List Value)):Prop where
  mem:∃h∈own,Sl h base cs
instance C0.head{h:B6}{r:List B6}{base:Option Addr}{cs:List Value} [t:Sl h base cs]:C0 (h::r) base cs:=⟨h,List.mem_cons_self ..,t⟩
instance (priority:=low) C0.tail{h:B6}{r:List B6}{base:Option Addr}{cs:List Value} [t:C0 r base cs]:C0 (h::r) base cs:=let ⟨k,hk,e⟩:=t.mem;⟨k,List.mem_cons_of_mem _ hk,e⟩
theorem C0.cell{own:List B6}{base:Option Addr}{cs:List Value}(t:C0 own base cs){X:List B6}{w:World}(s:Sat (own++X) w){k:Nat}{v:Value}(hk:cs[k]?=some v):
    ∃a,base=some a/\a.spot=none/\w.cell? ⟨a.block,a.off+k,none⟩=some v:=by
  obtain⟨h,hm,e⟩:=t.mem;obtain⟨a,arr,T,fz,h1,h2,h3,h4⟩:=e.cell k v hk;exact⟨a,h1,h2,by rw [Gf (s.at (List.mem_append.2 (.inl hm)) h3)];exact h4⟩
class Ns (P:Program) (t:TypeId) (e:outParam TypeId) (sz:outParam Nat):Prop where
  u:P.underlying t=some (.slice e)
  s:∀w,(sizeOf e).run P w= .ok sz w
theorem IF{P:Program}{t e:TypeId}{sz:Nat}{i:TypeInfo}(h1:P.underlying t=some (.slice e))(h2:P.info? e=some i)(h3:i.size=sz):Ns P t e sz:=
  ⟨h1,fun w=>by rw [DO h2,h3]⟩
class Zq (P:Program) (t:TypeId):Prop where
  run:∀w,(isAgg t).run P w= .ok false w
class Y6 (P:Program) (t:TypeId) (sz:outParam Nat):Prop where
  run:∀w,(isAgg t).run P w= .ok true w
  s:∀w,(sizeOf t).run P w= .ok sz w
theorem L5{P:Program}{t:TypeId}{d:TypeDesc}(h:P.underlying t=some d)(ha:My d=false):Zq P t:=⟨fun w=>by rw [Nb h,ha]⟩
theorem Ny{P:Program}{t:TypeId}{d:TypeDesc}{i:TypeInfo}{sz:Nat}(h:P.underlying t=some d)(ha:My d=true)(h2:P.info? t=some i)(h3:i.size=sz):Y6 P t sz:=
  ⟨fun w=>by rw [Nb h,ha],fun w=>by rw [DO h2,h3]⟩
section
variable {P:Program} {own:List B6} {n:Nat} {env:Env} {o:Oper}
theorem O8{t e:TypeId}{sz:Nat}{x ix:Operand}{k:IntKind}{base:Option Addr}{len cap j:Nat}{cs:List Value} [h1:Ns P t e sz](ho:o.op= .indexAddr t x ix)(hx:ev env x=some (.slice base len cap))(hi:ev env ix=some (.int k (j:Int)))
    [m:C0 own base cs] (Em:j<len) (hk:j*sz<cs.length):Dc P own n o env (Q7 base (j*sz)):=
  ⟨by rw [ho];rfl,fun a w X hA s=>⟨w,s,.inl (by
    obtain⟨ad,hb,eW, -⟩:=m.cell s (k:=j*sz) (v:=cs[j*sz]) (by simp [hk]);subst hb;obtain⟨bb,off,spot⟩:=ad;simp only at eW
    subst eW;have h2:(0:Int)≤(j:Int)/\(j:Int)<(len:Int):=by omega
    simp [execOp,ho,hA.eval hx,hA.eval hi,Instr.indexAt,asIntOf,CL h1.u,h1.s,Em,Q7,DX])⟩⟩
theorem CD{t e:TypeId}{sz:Nat}{x ix:Operand}{k:IntKind}{a:Int}{base:Option Addr}{len cap:Nat}{cs:List Value} [h1:Ns P t e sz](ho:o.op= .indexAddr t x ix)(hx:ev env x=some (.slice base len cap))(hi:ev env ix=some (.int k a))
    [m:C0 own base cs] (h0:0≤a) (Em:a<len) (hk:a.toNat*sz<cs.length):Dc P own n o env (Q7 base (a.toNat*sz)):=by
  refine O8 (k:=k) (j:=a.toNat) ho hx ?_ Ab hk;rw [hi,Int.toNat_of_nonneg h0]
theorem EX{t:TypeId}{x:Operand}{j k fo:Nat}{base:Option Addr}{cs:List Value} [h1:He P t k fo](ho:o.op= .fieldAddr t x k)(hx:ev env x=some (Q7 base j)) [m:C0 own base cs](hk:j<cs.length):Dc P own n o env (Q7 base (j+fo)):=
  ⟨by rw [ho];rfl,fun a w X hA s=>⟨w,s,.inl (by
    obtain⟨ad,hb,eW, -⟩:=m.cell s (k:=j) (v:=cs[j]) (by simp [hk]);subst hb;have:=h1.run ⟨ad.block,ad.off+j,none⟩ w;rw [DX] at this
    simp [execOp,ho,hA.eval hx,Q7,this,Nat.add_assoc])⟩⟩
theorem Wl{t:TypeId}{x:Operand}{k:Nat}{base:Option Addr}{cs:List Value}{v:Value} [ty:Zq P t](ho:o.op= .load t x)(hx:ev env x=some (Q7 base k)) [m:C0 own base cs](hv:cs[k]?=some v):Dc P own n o env v:=
  ⟨by rw [ho];rfl,fun a w X hA s=>⟨w,s,.inl (by
    obtain⟨ad,hb, -,hc⟩:=m.cell s hv;subst hb;simp [execOp,ho,hA.eval hx,Instr.loadAt,Q7,Instr.sureAddr,loadVar,ty.run,hc])⟩⟩
theorem HI{t:TypeId}{x:Operand}{k sz:Nat}{base:Option Addr}{cs vs:List Value} [ty:Y6 P t sz](ho:o.op= .load t x)(hx:ev env x=some (Q7 base k)) [m:C0 own base cs](Gr:0<sz)(hl:vs.length=sz)(hv:∀j v,vs[j]?=some v->cs[k+j]?=some v):Dc P own n o env (.agg ⟨vs⟩):=
  ⟨by rw [ho];rfl,fun a w X hA s=>⟨w,s,.inl (by
    obtain⟨ad,hb, -, -⟩:=m.cell s (k:=k+0) (hv 0 vs[0] (by simp [hl,Gr]));subst hb;have:=run_loadCells_list (P:=P) w ⟨ad.block,ad.off+k,none⟩ vs (fun j v hj=>by
      obtain⟨a2,Xi, -,hc⟩:=m.cell s (hv j v hj);cases Xi;rw [DX,Nat.add_assoc];exact hc)
    rw [hl] at this
    simp [execOp,ho,hA.eval hx,Instr.loadAt,Q7,Instr.sureAddr,loadVar,ty.run,ty.s,this])⟩⟩
end
structure OS(h:B6)(base:Option Addr)(len cap:Nat)(T:TypeId)(sz:Nat)(cs:List Value):Prop where
  hlen:cs.length=len*sz
  hle:len≤cap
  shape:(base=none/\len=0/\cap=0/\h=emp)∨∃b off arr,base=some ⟨b,off,none⟩/\h=Co b (.cells arr T (0,0))/\off+cap*sz≤arr.size/\∀k v,cs[k]?=some v->arr[off+k]?=some v
theorem OS.nil{T:TypeId}{sz:Nat}:OS emp none 0 0 T sz []:=⟨by simp,Nat.le_refl _,.inl ⟨rfl,rfl,rfl,rfl⟩⟩
theorem OS.sl{h:B6}{base:Option Addr}{len cap:Nat}{T:TypeId}{sz:Nat}{cs:List Value}(s:OS h base len cap T sz cs):Sl h base cs:=
  ⟨fun k v hk=>by
    rcases s.shape with ⟨-,h2, -, -⟩|⟨b,off,arr,h1,h2,h3,h4⟩
    · have:=s.hlen;rw [h2,Nat.zero_mul,List.length_eq_zero_iff] at this;rw [this] at hk;cases hk
    · exact⟨⟨b,off,none⟩,arr,T,(0,0),h1,rfl,by rw [h2];exact CT _ _,h4 k v hk⟩⟩
theorem getElem?_tail{α:Type}{l m:List α}{k:Nat}{v:α}(h:(l++m)[k]?=some v):(k<l.length/\l[k]?=some v)∨(l.length≤k/\m[k - l.length]?=some v):=by
  by_cases hk:k<l.length
  · exact .inl ⟨hk,by rwa [List.getElem?_append_left hk] at h⟩
  · exact .inr ⟨by omega,by rwa [List.getElem?_append_right Ab] at h⟩
theorem NK{P:Program}{t ty e:TypeId}{i:TypeInfo}{z:Value}{h:B6}{base:Option Addr}{len cap m c:Nat}{cs news:List Value}{a:Addr}{hs:List B6}{w:World}
    (ht:P.underlying t=some (.slice e)) (hi:P.info? e=some i) (hz:i.zero=some z) (aY:z.cells.size=i.size)
    (os:OS h base len cap e i.size cs) (s:Sat (h::hs) w) (hm:0<m) (hl:news.length=m*i.size) (hn:∀j v,news[j]?=some v->w.cell? (a.add j)=some v) (h1:∀v∈news,v.oneCell'=true)
    (Fq:(len+m)*i.bytes≤70368744177664) (hlen:len+m≤70368744177664):
    ∃h' DN E4 w',(Builtin.append_ #[t,t] ty #[.slice base len cap,.slice (some a) m c]).run P w= .ok (.slice DN (len+m) E4) w'/\OS h' DN (len+m) E4 e i.size (cs++news)/\Sat (h'::hs) w':=by
  have hz':z.cells.size=i.size:=aY;have FZ:(cs++news).length=(len+m)*i.size:=by rw [List.length_append,os.hlen,hl,Nat.add_mul]
  have P0:∀k,(Builtin.zeroCells z.cells k).size=k*i.size:=fun k=>by simp [Builtin.zeroCells,hz']
  have hcapn:∀need old,need≤grownCap w need old e:=fun need old=>by simp [grownCap,Question.cut]
  rcases os.shape with ⟨hb,h2,h3,hh⟩|⟨b,off,arr,hb,hh,GH,L2⟩
  · subst hb;subst h2;subst h3;subst hh;have hcs0:cs= []:=by have:=os.hlen;rw [Nat.zero_mul,List.length_eq_zero_iff] at this;exact this
    subst hcs0;have E0:=run_append_nil (P:=P) w t ty e i z ht hi hz a m c news hl hn hm Ab (by simp at Fq;omega);rw [Nat.zero_add];refine⟨Co w.heap.size (.cells (news.toArray++Builtin.zeroCells z.cells (grownCap w m 0 e - m)) e (0,0)),_,_,_,E0,?_,?_⟩
    · have hc:=hcapn m 0;refine⟨by simpa using hl,hc,.inr ⟨w.heap.size,0,_,rfl,rfl,?_,fun k v hk=> ?_⟩⟩
      · rw [Array.size_append,P0,List.size_toArray,hl,Nat.sub_mul];have:m*i.size≤grownCap w m 0 e*i.size:=Nat.mul_le_mul_right _ hc;omega
      · rw [List.nil_append] at hk
        have Em:k<news.length:=(List.getElem?_eq_some_iff.1 hk).1;rw [Nat.zero_add,Array.getElem?_append_left (by simpa using Em)];simpa using hk
    · have s2:Sat hs w.drew:=s.tail.heap rfl rfl rfl;exact D4 s2 _ (fun _=>by simp [Ou])
  · subst hb;subst hh;have hg:w.heap[b]?=some (.cells arr e (0,0)):=s.at (List.mem_cons_self ..) (CT _ _);have hold:∀j v,cs[j]?=some v->w.cell? ((⟨b,off,none⟩:Addr).add j)=some v:=fun j v hj=>by rw [DX,Gf hg];exact L2 j v hj
    by_cases hfit:len+m≤cap
    ·
      have FB:=run_storeCells_at P b (off+len*i.size) e news 0 arr w hg (by
        rw [hl];have:(len+m)*i.size≤cap*i.size:=Nat.mul_le_mul_right _ hfit;rw [Nat.add_mul] at this
        omega) h1
      have hfc:=run_firstCells_some (P:=P) w i.size m a m c news hl hn;have E0:(Builtin.append_ #[t,t] ty #[.slice (some ⟨b,off,none⟩) len cap,.slice (some a) m c]).run P w= .ok (.slice (some ⟨b,off,none⟩) (len+m) cap)
          (w.setRow b (arr.toList.take (off+len*i.size+0)++news++arr.toList.drop (off+len*i.size+0+news.length)).toArray):=by
        have hfc':(Builtin.firstCells i.size m (.slice (some a) m c)).run P w= .ok news.toArray w:=hfc;simp [Builtin.append_,CL ht,DO hi,Builtin.lenOf,hfit,hfc',DX,FB]
      refine⟨_,_,_,_,E0,⟨FZ,hfit,.inr ⟨b,off,_,rfl,rfl,?_,fun k v hk=> ?_⟩⟩,s.put (setRow_heap w b _ _ e (0,0) hg) As As (fun k hk=>setRow_other w b k _ hk) (fun _=>rfl)⟩
      · have:(len+m)*i.size≤cap*i.size:=Nat.mul_le_mul_right _ hfit;rw [Nat.add_mul] at this
        simp only [List.size_toArray,List.length_append,List.length_take,List.length_drop,Array.length_toList];omega
      · have:(len+m)*i.size≤cap*i.size:=Nat.mul_le_mul_right _ hfit;rw [Nat.add_mul] at this
        rw [List.getElem?_toArray];rcases getElem?_tail hk with ⟨g1,g2⟩|⟨g1,g2⟩
        · rw [os.hlen] at g1
          rw [List.append_assoc,List.getElem?_append_left (by rw [List.length_take,Array.length_toList];omega),List.getElem?_take,if_pos Ab];have:=L2 k v g2;simpa using this
        · rw [os.hlen] at g1 g2
          have Em:k - len*i.size<news.length:=(List.getElem?_eq_some_iff.1 g2).1;have htk:(arr.toList.take (off+len*i.size+0)).length=off+len*i.size:=by rw [List.length_take,Array.length_toList];omega
          rw [List.append_assoc,List.getElem?_append_right (by rw [htk];omega),htk];rw [List.getElem?_append_left Ab];rw [<-g2];congr 1;omega
    · have Q0:=nextslicecap_le (need:=len+m) (old:=cap) Ab;have E0:=run_append_grow (P:=P) w t ty e i z ht hi hz ⟨b,off,none⟩ len cap cs os.hlen hold a m c news hl hn Ab Ab (by
        have:Builtin.nextslicecap (len+m) cap*i.bytes≤2*(len+m)*i.bytes:=Nat.mul_le_mul_right _ Q0;rw [Nat.mul_assoc] at this
        omega)
      have s2:Sat hs w.drew:=s.tail.heap rfl rfl rfl;refine⟨_,_,_,_,E0,⟨FZ,hcapn _ _,.inr ⟨w.heap.size,0,_,rfl,rfl,?_,fun k v hk=> ?_⟩⟩,D4 s2 _ (fun _=>by simp [Ou])⟩
      · have hc:=hcapn (len+m) cap;have:(len+m)*i.size≤grownCap w (len+m) cap e*i.size:=Nat.mul_le_mul_right _ hc;rw [Array.size_append,P0,Array.size_append,List.size_toArray,List.size_toArray,os.hlen,hl,Nat.sub_mul,<-Nat.add_mul];omega
      · have Em:k<(cs++news).length:=(List.getElem?_eq_some_iff.1 hk).1;rw [Nat.zero_add,Array.getElem?_append_left (by simpa using Em)];rw [<-hk];simp
end Go.SL
end
section
namespace Go.SL
class M4 (P:Program) (t:TypeId) (e:outParam TypeId) (sz bytes:outParam Nat):Prop where
  all:∃i z,P.underlying t=some (.slice e)/\P.info? e=some i/\i.zero=some z/\z.cells.size=sz/\i.size=sz/\i.bytes=bytes
theorem Jk{P:Program}{t e:TypeId}{sz bytes:Nat}{i:TypeInfo}{z:Value}(h1:P.underlying t=some (.slice e))(h2:P.info? e=some i)(h3:i.zero=some z)(h4:z.cells.size=sz)(h5:i.size=sz)(h6:i.bytes=bytes):M4 P t e sz bytes:=
  ⟨i,z,h1,h2,h3,h4,h5,h6⟩
section
variable {P:Program} {r:Option Nat} {F:B6} {n:Nat} {Q:C4} {env:Env} {own rest hs own':List B6} {ds:List Deferred} {q:Bool} {all:Array Oper} {l:List Oper} {o:Oper} {id:Nat}
theorem IG{d:Nat}(hd:o.dst=some d)(hn:Nat.blt d n=true)(hg:Cy all env o=some true)(hp:Ek o.op=true)
    (h:∀a w,Has n env a->Sat (F::own) w->∃v w' own',(execOp a.eval o).run P w= .ok (.value v) w'/\Sat (F::own') w'/\C6 false P r F n all l Q ((d,v)::env) own' ds):
    C6 false P r F n all (o::l) Q env own ds:=fun k hk=>by
  obtain⟨i,k',rfl,hi,Mm⟩:=VP hk;intro a w ha MO hs;rw [wpOpsIn_cons];simp only [wpOpIn,hi,DH ha hg,if_true];refine⟨fun f _=>by simp,?_⟩;obtain⟨v,w',own',hr,s',hq⟩:=h a w ha hs;rw [Eo,semAt_plain hp,hr,Oper.uponIn_value,hd];exact hq k' Mm _ w' (ha.put v (Nat.le_of_ble_eq_true hn)) MO s'
theorem EV{t e:TypeId}{sz bytes:Nat}{c:Call}{x y:Operand}{h:B6}{base:Option Addr}{len cap m mc:Nat}{cs news:List Value}{a:Addr}{d:Nat} [g:M4 P t e sz bytes]
    (hd:o.dst=some d) (hn:Nat.blt d n=true) (hg:Cy all env o=some true) (ho:o.op= .call c) (hc:c.callee= .builtin .append) (Il:c.args= #[x,y]) (E5:c.argTypes= #[t,t])
    (hx:ev env x=some (.slice base len cap)) (hy:ev env y=some (.slice (some a) m mc)) [mm:C0 own (some a) news] (os:OS h base len cap e sz cs) [tk:Ks own h rest]
    (hm:0<m) (FZ:news.length=m*sz) (Gr:0<sz) (h1:news.all (·.oneCell')=true) (Fq:(len+m)*bytes≤70368744177664) (hlen:len+m≤70368744177664)
    (next:∀h' DN E4,OS h' DN (len+m) E4 e sz (cs++news)->C6 false P r F n all l Q ((d,.slice DN (len+m) E4)::env) (h'::rest) ds):
    C6 false P r F n all (o::l) Q env own ds:=by
  refine IG hd hn hg (by rw [ho];rfl) fun A w hA hs=> ?_
  obtain⟨i,z,g1,g2,g3,g4,g5,g6⟩:=g.all;subst g5;subst g6;have s1:Sat (own++ [F]) w:=hs.perm (List.perm_append_comm (l₁:= [F]) (l₂:=own));have hpos':0<news.length:=by rw [FZ];exact Nat.mul_pos hm Gr
  have Ke:∀j v,news[j]?=some v->w.cell? (a.add j)=some v:=fun j v hj=>by
    obtain⟨a',e1,e2,e3⟩:=mm.cell s1 hj;cases e1;obtain⟨b,off,sp⟩:=a;simp only at e2
    subst e2;rw [DX];exact e3
  have s2:Sat (h::(rest++ [F])) w:=s1.perm (tk.perm.append_right [F]);obtain⟨h',DN,E4,w',E0,HT,s3⟩:=NK (P:=P) (ty:=o.type) (c:=mc) g1 g2 g3 g4 os s2 hm FZ Ke (by simpa using h1) Fq hlen;refine⟨_,w',h'::rest,?_,s3.perm (List.perm_append_comm (l₁:=h'::rest) (l₂:= [F])),next h' DN E4 HT⟩;simp [execOp,ho,resolve,hc,Il,E5,invoke,builtin,hA.eval hx,hA.eval hy,E0]
def TI:Nat->List Value->Option (List Value)
  |0,_=>some []
  |k+1,zc=>UQ zc (TI k zc)
theorem U2(zc:List Value):∀k,TI k zc=some (List.replicate k zc).flatten:=by
  intro k;induction k with
  |zero=>rfl
  |succ k ih=>simp [TI,ih,Qi,List.replicate_succ]
theorem U3(zc:List Value):∀k i,i<k*zc.length->(List.replicate k zc).flatten[i]?=zc[i%zc.length]?:=by
  intro k;induction k with
  |zero=>intro i h;simp at h
  | succ k ih=>
    intro i h;rw [List.replicate_succ,List.flatten_cons];by_cases hi:i<zc.length
    · rw [List.getElem?_append_left hi,Nat.mod_eq_of_lt hi]
    · rw [List.getElem?_append_right Ab,ih _ (by rw [Nat.add_mul] at h;omega)]
      congr 1
      conv=>rhs;rw [show i=(i - zc.length)+zc.length by omega,Nat.add_mod_right]
theorem O2{t e:TypeId}{sz bytes len:Nat}{ps:Array (Nat×Operand)}{qs:List (Nat×Value)}{zv:Value}{zc zs cs:List Value}{d:Nat}{de:TypeDesc}{ti:TypeInfo} [g:M4 P t e sz bytes] [z:Ty P e de zv ti]
    (hd:o.dst=some d) (hn:Nat.blt d n=true) (hg:Cy all env o=some true) (ho:o.op= .buildSlice t len ps) (hp:Q6 env ps.toList=some qs)
    (P0:D9 zv=some zc) (Su:zc.length=sz) (hz:TI len zc=some zs) (hb:JI (fun i=>some (i*sz,sz)) zs qs=some cs) (Ol:Nat.ble (len*sz) 16777216=true)
    (next:∀b,C6 false P r F n all l Q ((d,.slice (some ⟨b,0,none⟩) len len)::env) (Co b (.cells ⟨cs⟩ e (0,0))::own) ds):
    C6 false P r F n all (o::l) Q env own ds:=by
  refine IG hd hn hg (by rw [ho];rfl) fun A w hA hs=> ?_
  obtain⟨i,z',g1,g2,g3,g4,g5,g6⟩:=g.all;have e1:(ps.map fun(p:Nat×Operand)=>(p.1,A.eval p.2))=(⟨qs⟩:Array (Nat×Value)):=Array.ext' (by simpa using Ms hA hp);refine⟨.slice (some ⟨w.heap.size,0,none⟩) len len,{w with heap:=w.heap.push (.cells ⟨cs⟩ e (0,0))},_,?_,(D4 hs _ (fun _=>by simp [Ou])).swap,next w.heap.size⟩;have hbig':¬16777216<len*sz:=by have:=Nat.le_of_ble_eq_true Ol;omega
  have hzr:=U2 zc len;rw [hz] at hzr
  simp only [Option.some.injEq] at hzr
  have hfill:=fill_eq hb;have GH:(sizeOf e).run P w= .ok sz w:=by rw [DO g2,g5]
  have hzero:((Array.range (len*sz)).map fun j=>(⟨zc⟩:Array Value)[j%(⟨zc⟩:Array Value).size]!)=⟨zs⟩:=by
    apply Array.ext';apply List.ext_getElem?;intro j;have Xe:(⟨zc⟩:Array Value).size=sz:=Su;rw [Xe];by_cases hj:j<len*sz
    · have hszpos:0<sz:=Nat.pos_of_ne_zero fun e=>by rw [e] at hj;simp at hj
      have hm:j%sz<zc.length:=by rw [Su];exact Nat.mod_lt _ hszpos
      rw [hzr,U3 zc len j (by rw [Su];exact hj),Su];simp [hj,hm]
    · rw [hzr,List.getElem?_eq_none Aq,List.getElem?_eq_none (by simp [Su];omega)]
  simp only [execOp,ho];rw [show(ps.map fun(x:Nat×Operand)=>match x with|(i,x)=>(i,A.eval x))=(⟨qs⟩:Array (Nat×Value)) from e1];by_cases h0:len*sz=0
  · have aY:zs= []:=by
      have:zs.length=len*sz:=by rw [hzr];simp [Su]
      rw [h0] at this;exact List.length_eq_zero_iff.1 this
    rw [aY] at hfill
    have Uy:(Array.range 0).map (fun(_:Nat)=>(default:Value))=⟨[]⟩:=by simp
    simp [Instr.buildSlice,CL g1,GH,h0,Uy,hfill,newRow]
  · have hc:=EB P0;have hzero':((Array.range (len*sz)).map fun j=>zv.cells[j%zv.cells.size]!)=⟨zs⟩:=by rw [hc];exact hzero
    simp [Instr.buildSlice,CL g1,GH,h0,hbig',z.z,hzero',hfill,newRow]
end
def LV(P:Program)(r:Option Nat)(F:B6)(n:Nat)(c:Code)(Q:C4):Nat->Env->List B6->List Deferred->Prop
  |0,_,_,_=>False
  |m+1,env,own,ds=>Db P r F n c (Qj (LV P r F n c Q m) Q) env own ds
theorem GK{P:Program}{r:Option Nat}{F:B6}{n:Nat}{Q:C4}{env:Env}{own:List B6}{ds:List Deferred}{c:Code}(m:Nat)(h:LV P r F n c Q m env own ds):Db P r F n (.loop c) Q env own ds:=by
  have key:∀m env own ds,LV P r F n c Q m env own ds->∀a w,Has n env a->a.defers=ds->Sat (F::own) w->Code.roundsIn (Np r) 0 P c (GR F n Q) m a w:=by
    intro m;induction m with
    |zero=>intro _ _ _ h;exact h.elim
    | succ m ih=>
      intro env own ds h a w ha hd hs;refine wpIn_mono (h a w ha hd hs) fun e a' w' ⟨he,env',own',h1,h2,h3⟩=> ?_
      cases e with
      |normal=>exact ih _ _ _ h3 a' w' h1 rfl h2
      |outgrown=>exact absurd rfl he
      |_=>exact⟨he,env',own',h1,h2,h3⟩
  exact fun a w ha hd hs=>wpIn_loop_rounds m (key m env own ds h a w ha hd hs)
theorem JP{P:Program}{r:Option Nat}{F:B6}{n:Nat}{Q:C4}{env:Env}{own:List B6}{ds:List Deferred}{c:Code}{m:Nat}(h:Db P r F n c (Qj (LV P r F n c Q m) Q) env own ds):LV P r F n c Q (m+1) env own ds:=h
end Go.SL
end
section
namespace Go.SL
def DS(P:Program)(hs:List B6)(n:Nat)(o:Oper)(env:Env)(R:Value->List B6->Prop):Prop:=
  Ek o.op=true/\∀a w X,Has n env a->Sat (hs++X) w->∃w',
    (∃v own,(execOp a.eval o).run P w= .ok (.value v) w'/\Sat (own++X) w'/\R v own)∨
    (∃own,(execOp a.eval o).run P w= .ok .skip w'/\Sat (own++X) w'/\R undef own)∨
    (∃f args,(execOp a.eval o).run P w= .ok (.enter f args) w'/\Calls P f args w' fun e K9=>∃v own,e= .returned v/\Sat (own++X) K9/\R v own)∨
    (∃L f tmps assign body,(execOp a.eval o).run P w= .ok (.round L f tmps assign body) w'/\∀r,RoundIn (Np r) 0 P L f tmps assign body w' fun e K9=>∃v own,e= .returned v/\Sat (own++X) K9/\R v own)
theorem Ys{P:Program}{r:Option Nat}{hs X:List B6}{n:Nat}{o:Oper}{env:Env}{R:Value->List B6->Prop}(h:DS P hs n o env R)
    {all:Array Oper} {Q:Exit->Act->World->Prop} {i:Nat} {K:Act->World->Prop} {a:Act} {w:World} (hi:all[i]?=some o)
    (hw:Region.wanted o (yielded all a.tmps)=true) {a':Act} (ha:Has n env a') (he:execOp a.eval o=execOp a'.eval o) (hs':Sat (hs++X) w)
    (hk:∀v own w',R v own->Sat (own++X) w'->K (a.put o.dst v) w'):wpOpIn (Np r) 0 P all Q i K a w:=by
  simp only [wpOpIn,hi,hw,if_true];refine⟨fun f _=>by simp,?_⟩;rw [Eo,semAt_plain h.1,he];obtain⟨w',⟨v,own,h1,h2,h3⟩|⟨own,h1,h2,h3⟩|⟨f,args,h1,h2⟩|⟨L,f,tmps,as,body,h1,h2⟩⟩:=h.2 a' w X ha hs'
  · rw [h1];exact hk v own w' h3 h2
  · rw [h1];exact hk undef own w' h3 h2
  · rw [h1];refine⟨fun hx=>by simp at hx,(E8 _ h2).mono ?_⟩;rintro e K9 ⟨v,own,rfl,s2,hR⟩;exact hk v own K9 hR s2
  · rw [h1];refine⟨fun hx=>by simp at hx,(h2 r).mono ?_⟩;rintro e K9 ⟨v,own,rfl,s2,hR⟩;exact hk v own K9 hR s2
def Gc(all:Array Oper)(vs:Nat->Value):List Nat->Env->Env
  | [],env=>env
  |i::l,env=>Gc all vs l (match(all[i]?).bind (·.dst) with|some d=>(d,vs i)::env|none=>env)
theorem Qa{all:Array Oper}{vs:Nat->Value}:∀ {l:List Nat} {i:Nat} {env:Env},Gc all vs (l++ [i]) env=(match(all[i]?).bind (·.dst) with|some d=>(d,vs i)::Gc all vs l env|none=>Gc all vs l env):=by
  intro l;induction l with
  |nil=>intro i env;rfl
  |cons j l ih=>intro i env;simp only [List.cons_append,Gc];exact ih
theorem Fi{all:Array Oper}{vs Xb:Nat->Value}:∀ {l:List Nat} {env:Env},(∀i∈l,vs i=Xb i)->Gc all vs l env=Gc all Xb l env:=by
  intro l;induction l with
  |nil=>intro env _;rfl
  | cons j l ih=>
    intro env h;simp only [Gc];rw [h j (List.mem_cons_self ..),ih fun i hi=>h i (List.mem_cons_of_mem _ hi)]
theorem JV{all:Array Oper}{L:Nat->Bool}{s j:Nat}:∀ {m:Nat},Dy all L s m=some j->L j=true/\(all[j]?).bind (·.dst)=some s/\j<m:=by
  intro m;induction m with
  |zero=>intro h;cases h
  | succ m ih=>
    intro h;simp only [Dy] at h
    split at h
    · cases h;rename_i h2;simp only [Bool.and_eq_true,beq_iff_eq] at h2;exact⟨h2.1,h2.2,by omega⟩
    · obtain⟨a,b,c⟩:=ih h;exact⟨a,b,by omega⟩
def Zh(all:Array Oper)(l:List Nat):Prop:=l.Pairwise fun k k'=>∀s,(all[k]?).bind (·.dst)=some s->(all[k']?).bind (·.dst)=some s->k<k'
theorem Ww{all:Array Oper}{vs:Nat->Value}{env:Env}{s:Nat}(l:List Nat)(ha:Zh all l)(hl:∀i∈l,i<all.size):
    look (Gc all vs l env) s=match Dy all (fun j=>l.contains j) s all.size with|some j=>some (vs j)|none=>look env s:=by
  suffices h:∀k:List Nat,Zh all k.reverse->(∀i∈k.reverse,i<all.size)->look (Gc all vs k.reverse env) s=match Dy all (fun j=>k.reverse.contains j) s all.size with|some j=>some (vs j)|none=>look env s by
    have:=h l.reverse;rw [List.reverse_reverse] at this
    exact this ha hl
  clear ha hl l;intro k;induction k with
  | nil=>
    intro _ _;simp only [List.reverse_nil];have:∀m,Dy all (fun j=>([]:List Nat).contains j) s m=none:=by
      intro m;induction m with
      |zero=>rfl
      |succ m ih=>simp only [Dy,ih];simp
    rw [this];rfl
  | cons i k ih=>
    rw [List.reverse_cons]
    generalize k.reverse=l at ih ⊢
    intro iR Em;rw [Qa];have hasc':=List.pairwise_append.1 iR;have ih':=ih hasc'.1 (fun j hj=>Em j (List.mem_append.2 (.inl hj)));have hi:=Em i (List.mem_append.2 (.inr (List.mem_singleton.2 rfl)));by_cases hd:(all[i]?).bind (·.dst)=some s
    · have hl:Dy all (fun j=>(l++ [i]).contains j) s all.size=some i:=by
        rw [FY (i:=i+1) Ab (fun j g1 g2 g3 g4=> ?_)]
        · simp only [Dy];rw [if_pos (by simp [hd])]
        · simp only [List.contains_eq_mem,decide_eq_true_eq,List.mem_append,List.mem_singleton] at g3
          rcases g3 with g3|g3
          · have:=hasc'.2.2 j g3 i (List.mem_singleton.2 rfl) s g4 hd;omega
          · omega
      rw [hl,hd];simp [EE]
    · have hl:Dy all (fun j=>(l++ [i]).contains j) s all.size=Dy all (fun j=>l.contains j) s all.size:=by
        refine FN fun j _ hw=> ?_
        have:j≠i:=fun e=>by subst e;exact hd hw
        simp [this]
      rw [hl,<-ih'];cases WN:(all[i]?).bind (·.dst) with
      |none=>rfl
      | some d=>
        have:d≠s:=fun e=>hd (e▸WN)
        exact Gx _ _ this
def fI(all:Array Oper)(k k':Nat):Bool:=match(all[k]?).bind (·.dst) with
  |some d=> !((all[k']?).bind (·.dst) ==some d) ||Nat.blt k k'
  |none=>true
def aM(all:Array Oper):List Nat->Bool
  | []=>true
  |k::l=>l.all (fun k'=>fI all k k') && aM all l
theorem W4{all:Array Oper}:∀ {l:List Nat},aM all l=true->Zh all l:=by
  intro l;induction l with
  |nil=>intro _;exact List.Pairwise.nil
  | cons k l ih=>
    intro h;simp only [aM,Bool.and_eq_true,List.all_eq_true] at h
    refine List.Pairwise.cons (fun k' Mm s h1 h2=> ?_) (ih h.2);have:=h.1 k' Mm;unfold fI at this
    rw [h1] at this
    simp only [h2,beq_self_eq_true,Bool.not_true,Bool.false_or] at this
    exact Nat.le_of_ble_eq_true this
def NZ:List Nat->Bool
  | []=>true
  |i::l=> !l.contains i && NZ l
theorem MM:∀ {l:List Nat},NZ l=true->l.Nodup:=by
  intro l;induction l with
  |nil=>intro _;exact List.nodup_nil
  | cons i l ih=>
    intro h;simp only [NZ,Bool.and_eq_true,Bool.not_eq_true',List.contains_eq_mem,decide_eq_false_iff_not] at h
    exact List.nodup_cons.2 ⟨h.1,ih h.2⟩
end Go.SL
end
