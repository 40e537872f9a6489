
import Derived.Test.YtcnmnmjmpocepaaGreatDoorV02
import Derived.LoopNIn
import Derived.RangeFuncRecord
set_option linter.unusedVariables false
set_option linter.unusedSimpArgs false
set_option linter.unusedSectionVars false
set_option maxRecDepth 100000
set_option maxHeartbeats 16000000
section
namespace Go.SL
def Rb(base:Option Addr)(k:Nat):Value:= .pointer (base.map fun a=>⟨a.block,a.off+k,none⟩)
class Sl (h:CA) (base:Option Addr) (cs:outParam (List Value)):Prop where
  cell:∀k v,cs[k]?=some v->∃a arr T fz,base=some a/\a.spot=none/\h (.b a.block)=some (.o (.cells arr T fz))/\arr[a.off+k]?=some v
instance Sl.CV{b:Nat}{cs:List Value}{T:TypeId}{fz:Nat×Nat}:Sl (CV b (.cells ⟨cs⟩ T fz)) (some ⟨b,0,none⟩) cs:=
  ⟨fun k v hk=>⟨⟨b,0,none⟩,⟨cs⟩,T,fz,rfl,rfl,Dq _ _,by simpa using hk⟩⟩
class Ds (own:List CA) (base:Option Addr) (cs:outParam (List Value)):Prop where
  mem:∃h∈own,Sl h base cs
instance Ds.head{h:CA}{r:List CA}{base:Option Addr}{cs:List Value} [t:Sl h base cs]:Ds (h::r) base cs:=⟨h,List.mem_cons_self ..,t⟩
instance (priority:=low) Ds.tail{h:CA}{r:List CA}{base:Option Addr}{cs:List Value} [t:Ds r base cs]:Ds (h::r) base cs:=let ⟨k,hk,e⟩:=t.mem;⟨k,List.mem_cons_of_mem _ hk,e⟩
theorem Ds.cell{own:List CA}{base:Option Addr}{cs:List Value}(t:Ds own base cs){X:List CA}{w:World}(s:Sat (own++X) w){k:Nat}{v:Value}(hk:cs[k]?=some v):
    ∃a,base=some a/\a.spot=none/\w.cell? ⟨a.block,a.off+k,none⟩=some v:=by
  obtain⟨h,hm,e⟩:=t.mem;obtain⟨a,arr,T,fz,h1,h2,h3,h4⟩:=e.cell k v hk;exact⟨a,h1,h2,by rw [Hf (s.at (List.mem_append.2 (.inl hm)) h3)];exact h4⟩
class OZ (P:Program) (t:TypeId) (e:outParam TypeId) (sz:outParam Nat):Prop where
  u:P.underlying t=some (.slice e)
  s:∀w,(sizeOf e).run P w= .ok sz w
theorem JF{P:Program}{t e:TypeId}{sz:Nat}{i:TypeInfo}(h1:P.underlying t=some (.slice e))(h2:P.info? e=some i)(h3:i.size=sz):OZ P t e sz:=
  ⟨h1,fun w=>by rw [Ej h2,h3]⟩
class az (P:Program) (t:TypeId):Prop where
  run:∀w,(isAgg t).run P w= .ok false w
class dR (P:Program) (t:TypeId) (sz:outParam Nat):Prop where
  run:∀w,(isAgg t).run P w= .ok true w
  s:∀w,(sizeOf t).run P w= .ok sz w
theorem KS{P:Program}{t:TypeId}{d:TypeDesc}(h:P.underlying t=some d)(ha:Ox d=false):az P t:=⟨fun w=>by rw [Pj h,ha]⟩
theorem PG{P:Program}{t:TypeId}{d:TypeDesc}{i:TypeInfo}{sz:Nat}(h:P.underlying t=some d)(ha:Ox d=true)(h2:P.info? t=some i)(h3:i.size=sz):dR P t sz:=
  ⟨fun w=>by rw [Pj h,ha],fun w=>by rw [Ej h2,h3]⟩
section
variable {P:Program} {own:List CA} {n:Nat} {env:Env} {o:Oper}
theorem Rv{t e:TypeId}{sz:Nat}{x ix:Operand}{k:IntKind}{base:Option Addr}{len cap j:Nat}{cs:List Value} [h1:OZ P t e sz](ho:o.op= .indexAddr t x ix)(hx:ev env x=some (.slice base len cap))(hi:ev env ix=some (.int k (j:Int)))
    [m:Ds own base cs] (E6:j<len) (hk:j*sz<cs.length):DG P own n o env (Rb base (j*sz)):=
  ⟨by rw [ho];rfl,fun a w X hA s=>⟨w,s,.inl (by
    obtain⟨ad,hb,lQ, -⟩:=m.cell s (k:=j*sz) (v:=cs[j*sz]) (by simp [hk]);subst hb;obtain⟨bb,off,spot⟩:=ad;simp only at lQ
    subst lQ;have h2:(0:Int)≤(j:Int)/\(j:Int)<(len:Int):=by omega
    simp [execOp,ho,hA.eval hx,hA.eval hi,Instr.indexAt,asIntOf,Di h1.u,h1.s,E6,Rb,Es])⟩⟩
theorem C7{t e:TypeId}{sz:Nat}{x ix:Operand}{k:IntKind}{a:Int}{base:Option Addr}{len cap:Nat}{cs:List Value} [h1:OZ P t e sz](ho:o.op= .indexAddr t x ix)(hx:ev env x=some (.slice base len cap))(hi:ev env ix=some (.int k a))
    [m:Ds own base cs] (h0:0≤a) (E6:a<len) (hk:a.toNat*sz<cs.length):DG P own n o env (Rb base (a.toNat*sz)):=by
  refine Rv (k:=k) (j:=a.toNat) ho hx ?_ Ab hk;rw [hi,Int.toNat_of_nonneg h0]
theorem Fx{t:TypeId}{x:Operand}{j k fo:Nat}{base:Option Addr}{cs:List Value} [h1:Hz P t k fo](ho:o.op= .fieldAddr t x k)(hx:ev env x=some (Rb base j)) [m:Ds own base cs](hk:j<cs.length):DG P own n o env (Rb base (j+fo)):=
  ⟨by rw [ho];rfl,fun a w X hA s=>⟨w,s,.inl (by
    obtain⟨ad,hb,lQ, -⟩:=m.cell s (k:=j) (v:=cs[j]) (by simp [hk]);subst hb;have:=h1.run ⟨ad.block,ad.off+j,none⟩ w;rw [Es] at this
    simp [execOp,ho,hA.eval hx,Rb,this,Nat.add_assoc])⟩⟩
theorem Zr{t:TypeId}{x:Operand}{k:Nat}{base:Option Addr}{cs:List Value}{v:Value} [ty:az P t](ho:o.op= .load t x)(hx:ev env x=some (Rb base k)) [m:Ds own base cs](hv:cs[k]?=some v):DG P own n o env v:=
  ⟨by rw [ho];rfl,fun a w X hA s=>⟨w,s,.inl (by
    obtain⟨ad,hb, -,hc⟩:=m.cell s hv;subst hb;simp [execOp,ho,hA.eval hx,Instr.loadAt,Rb,Instr.sureAddr,loadVar,ty.run,hc])⟩⟩
theorem I5{t:TypeId}{x:Operand}{k sz:Nat}{base:Option Addr}{cs vs:List Value} [ty:dR P t sz](ho:o.op= .load t x)(hx:ev env x=some (Rb base k)) [m:Ds own base cs](GJ:0<sz)(hl:vs.length=sz)(hv:∀j v,vs[j]?=some v->cs[k+j]?=some v):DG P own n o env (.agg ⟨vs⟩):=
  ⟨by rw [ho];rfl,fun a w X hA s=>⟨w,s,.inl (by
    obtain⟨ad,hb, -, -⟩:=m.cell s (k:=k+0) (hv 0 vs[0] (by simp [hl,GJ]));subst hb;have:=run_loadCells_list (P:=P) w ⟨ad.block,ad.off+k,none⟩ vs (fun j v hj=>by
      obtain⟨a2,Ps, -,hc⟩:=m.cell s (hv j v hj);cases Ps;rw [Es,Nat.add_assoc];exact hc)
    rw [hl] at this
    simp [execOp,ho,hA.eval hx,Instr.loadAt,Rb,Instr.sureAddr,loadVar,ty.run,ty.s,this])⟩⟩
end
structure OS(h:CA)(base:Option Addr)(len cap:Nat)(T:TypeId)(sz:Nat)(cs:List Value):Prop where
  hlen:cs.length=len*sz
  hle:len≤cap
  shape:(base=none/\len=0/\cap=0/\h=emp)∨∃b off arr,base=some ⟨b,off,none⟩/\h=CV b (.cells arr T (0,0))/\off+cap*sz≤arr.size/\∀k v,cs[k]?=some v->arr[off+k]?=some v
theorem OS.nil{T:TypeId}{sz:Nat}:OS emp none 0 0 T sz []:=⟨by simp,Nat.le_refl _,.inl ⟨rfl,rfl,rfl,rfl⟩⟩
theorem OS.sl{h:CA}{base:Option Addr}{len cap:Nat}{T:TypeId}{sz:Nat}{cs:List Value}(s:OS h base len cap T sz cs):Sl h base cs:=
  ⟨fun k v hk=>by
    rcases s.shape with ⟨-,h2, -, -⟩|⟨b,off,arr,h1,h2,h3,h4⟩
    · have:=s.hlen;rw [h2,Nat.zero_mul,List.length_eq_zero_iff] at this;rw [this] at hk;cases hk
    · exact⟨⟨b,off,none⟩,arr,T,(0,0),h1,rfl,by rw [h2];exact Dq _ _,h4 k v hk⟩⟩
theorem getElem?_tail{α:Type}{l m:List α}{k:Nat}{v:α}(h:(l++m)[k]?=some v):(k<l.length/\l[k]?=some v)∨(l.length≤k/\m[k - l.length]?=some v):=by
  by_cases hk:k<l.length
  · exact .inl ⟨hk,by rwa [List.getElem?_append_left hk] at h⟩
  · exact .inr ⟨by omega,by rwa [List.getElem?_append_right Ab] at h⟩
theorem PS{P:Program}{t ty e:TypeId}{i:TypeInfo}{z:Value}{h:CA}{base:Option Addr}{len cap m c:Nat}{cs news:List Value}{a:Addr}{hs:List CA}{w:World}
    (ht:P.underlying t=some (.slice e)) (hi:P.info? e=some i) (hz:i.zero=some z) (iu:z.cells.size=i.size)
    (os:OS h base len cap e i.size cs) (s:Sat (h::hs) w) (hm:0<m) (hl:news.length=m*i.size) (hn:∀j v,news[j]?=some v->w.cell? (a.add j)=some v) (h1:∀v∈news,v.oneCell'=true)
    (FJ:(len+m)*i.bytes≤70368744177664) (hlen:len+m≤70368744177664):
    ∃h' D6 FA w',(Builtin.append_ #[t,t] ty #[.slice base len cap,.slice (some a) m c]).run P w= .ok (.slice D6 (len+m) FA) w'/\OS h' D6 (len+m) FA e i.size (cs++news)/\Sat (h'::hs) w':=by
  have iw:z.cells.size=i.size:=iu;have Gt:(cs++news).length=(len+m)*i.size:=by rw [List.length_append,os.hlen,hl,Nat.add_mul]
  have Sq:∀k,(Builtin.zeroCells z.cells k).size=k*i.size:=fun k=>by simp [Builtin.zeroCells,iw]
  have hcapn:∀need old,need≤grownCap w need old e:=fun need old=>by simp [grownCap,Question.cut]
  rcases os.shape with ⟨hb,h2,h3,hh⟩|⟨b,off,arr,hb,hh,Hs,Oi⟩
  · subst hb;subst h2;subst h3;subst hh;have hcs0:cs= []:=by have:=os.hlen;rw [Nat.zero_mul,List.length_eq_zero_iff] at this;exact this
    subst hcs0;have FE:=run_append_nil (P:=P) w t ty e i z ht hi hz a m c news hl hn hm Ab (by simp at FJ;omega);rw [Nat.zero_add];refine⟨CV w.heap.size (.cells (news.toArray++Builtin.zeroCells z.cells (grownCap w m 0 e - m)) e (0,0)),_,_,_,FE,?_,?_⟩
    · have hc:=hcapn m 0;refine⟨by simpa using hl,hc,.inr ⟨w.heap.size,0,_,rfl,rfl,?_,fun k v hk=> ?_⟩⟩
      · rw [Array.size_append,Sq,List.size_toArray,hl,Nat.sub_mul];have:m*i.size≤grownCap w m 0 e*i.size:=Nat.mul_le_mul_right _ hc;omega
      · rw [List.nil_append] at hk
        have E6:k<news.length:=(List.getElem?_eq_some_iff.1 hk).1;rw [Nat.zero_add,Array.getElem?_append_left (by simpa using E6)];simpa using hk
    · have s2:Sat hs w.drew:=s.tail.heap rfl rfl rfl;exact EN s2 _ (fun _=>by simp [Pt])
  · subst hb;subst hh;have hg:w.heap[b]?=some (.cells arr e (0,0)):=s.at (List.mem_cons_self ..) (Dq _ _);have hold:∀j v,cs[j]?=some v->w.cell? ((⟨b,off,none⟩:Addr).add j)=some v:=fun j v hj=>by rw [Es,Hf hg];exact Oi j v hj
    by_cases hfit:len+m≤cap
    ·
      have Gy:=run_storeCells_at P b (off+len*i.size) e news 0 arr w hg (by
        rw [hl];have:(len+m)*i.size≤cap*i.size:=Nat.mul_le_mul_right _ hfit;rw [Nat.add_mul] at this
        omega) h1
      have hfc:=run_firstCells_some (P:=P) w i.size m a m c news hl hn;have FE:(Builtin.append_ #[t,t] ty #[.slice (some ⟨b,off,none⟩) len cap,.slice (some a) m c]).run P w= .ok (.slice (some ⟨b,off,none⟩) (len+m) cap)
          (w.setRow b (arr.toList.take (off+len*i.size+0)++news++arr.toList.drop (off+len*i.size+0+news.length)).toArray):=by
        have hfc':(Builtin.firstCells i.size m (.slice (some a) m c)).run P w= .ok news.toArray w:=hfc;simp [Builtin.append_,Di ht,Ej hi,Builtin.lenOf,hfit,hfc',Es,Gy]
      refine⟨_,_,_,_,FE,⟨Gt,hfit,.inr ⟨b,off,_,rfl,rfl,?_,fun k v hk=> ?_⟩⟩,s.put (setRow_heap w b _ _ e (0,0) hg) Av Av (fun k hk=>setRow_other w b k _ hk) (fun _=>rfl)⟩
      · have:(len+m)*i.size≤cap*i.size:=Nat.mul_le_mul_right _ hfit;rw [Nat.add_mul] at this
        simp only [List.size_toArray,List.length_append,List.length_take,List.length_drop,Array.length_toList];omega
      · have:(len+m)*i.size≤cap*i.size:=Nat.mul_le_mul_right _ hfit;rw [Nat.add_mul] at this
        rw [List.getElem?_toArray];rcases getElem?_tail hk with ⟨g1,g2⟩|⟨g1,g2⟩
        · rw [os.hlen] at g1
          rw [List.append_assoc,List.getElem?_append_left (by rw [List.length_take,Array.length_toList];omega),List.getElem?_take,if_pos Ab];have:=Oi k v g2;simpa using this
        · rw [os.hlen] at g1 g2
          have E6:k - len*i.size<news.length:=(List.getElem?_eq_some_iff.1 g2).1;have htk:(arr.toList.take (off+len*i.size+0)).length=off+len*i.size:=by rw [List.length_take,Array.length_toList];omega
          rw [List.append_assoc,List.getElem?_append_right (by rw [htk];omega),htk];rw [List.getElem?_append_left Ab];rw [<-g2];congr 1;omega
    · have NP:=nextslicecap_le (need:=len+m) (old:=cap) Ab;have FE:=run_append_grow (P:=P) w t ty e i z ht hi hz ⟨b,off,none⟩ len cap cs os.hlen hold a m c news hl hn Ab Ab (by
        have:Builtin.nextslicecap (len+m) cap*i.bytes≤2*(len+m)*i.bytes:=Nat.mul_le_mul_right _ NP;rw [Nat.mul_assoc] at this
        omega)
      have s2:Sat hs w.drew:=s.tail.heap rfl rfl rfl;refine⟨_,_,_,_,FE,⟨Gt,hcapn _ _,.inr ⟨w.heap.size,0,_,rfl,rfl,?_,fun k v hk=> ?_⟩⟩,EN s2 _ (fun _=>by simp [Pt])⟩
      · have hc:=hcapn (len+m) cap;have:(len+m)*i.size≤grownCap w (len+m) cap e*i.size:=Nat.mul_le_mul_right _ hc;rw [Array.size_append,Sq,Array.size_append,List.size_toArray,List.size_toArray,os.hlen,hl,Nat.sub_mul,<-Nat.add_mul];omega
      · have E6:k<(cs++news).length:=(List.getElem?_eq_some_iff.1 hk).1;rw [Nat.zero_add,Array.getElem?_append_left (by simpa using E6)];rw [<-hk];simp
end Go.SL
end
section
namespace Go.SL
class NI (P:Program) (t:TypeId) (e:outParam TypeId) (sz bytes:outParam Nat):Prop where
  all:∃i z,P.underlying t=some (.slice e)/\P.info? e=some i/\i.zero=some z/\z.cells.size=sz/\i.size=sz/\i.bytes=bytes
theorem JE{P:Program}{t e:TypeId}{sz bytes:Nat}{i:TypeInfo}{z:Value}(h1:P.underlying t=some (.slice e))(h2:P.info? e=some i)(h3:i.zero=some z)(h4:z.cells.size=sz)(h5:i.size=sz)(h6:i.bytes=bytes):NI P t e sz bytes:=
  ⟨i,z,h1,h2,h3,h4,h5,h6⟩
section
variable {P:Program} {r:Option Nat} {F:CA} {n:Nat} {Q:DD} {env:Env} {own rest hs own':List CA} {ds:List Deferred} {q:Bool} {all:Array Oper} {l:List Oper} {o:Oper} {id:Nat}
theorem Jl{d:Nat}(hd:o.dst=some d)(hn:Nat.blt d n=true)(hg:C6 all env o=some true)(hp:EX o.op=true)
    (h:∀a w,Has n env a->Sat (F::own) w->∃v w' own',(execOp a.eval o).run P w= .ok (.value v) w'/\Sat (F::own') w'/\DE false P r F n all l Q ((d,v)::env) own' ds):
    DE false P r F n all (o::l) Q env own ds:=fun k hk=>by
  obtain⟨i,k',rfl,hi,Oh⟩:=YZ hk;intro a w ha OT hs;rw [wpOpsIn_cons];simp only [wpOpIn,hi,Ee ha hg,if_true];refine⟨fun f _=>by simp,?_⟩;obtain⟨v,w',own',hr,s',hq⟩:=h a w ha hs;rw [Ff,semAt_plain hp,hr,Oper.uponIn_value,hd];exact hq k' Oh _ w' (ha.put v (Nat.le_of_ble_eq_true hn)) OT s'
theorem Ef{t e:TypeId}{sz bytes:Nat}{c:Call}{x y:Operand}{h:CA}{base:Option Addr}{len cap m mc:Nat}{cs news:List Value}{a:Addr}{d:Nat} [g:NI P t e sz bytes]
    (hd:o.dst=some d) (hn:Nat.blt d n=true) (hg:C6 all env o=some true) (ho:o.op= .call c) (hc:c.callee= .builtin .append) (Jc:c.args= #[x,y]) (FD:c.argTypes= #[t,t])
    (hx:ev env x=some (.slice base len cap)) (hy:ev env y=some (.slice (some a) m mc)) [mm:Ds own (some a) news] (os:OS h base len cap e sz cs) [tk:Mg own h rest]
    (hm:0<m) (Gt:news.length=m*sz) (GJ:0<sz) (h1:news.all (·.oneCell')=true) (FJ:(len+m)*bytes≤70368744177664) (hlen:len+m≤70368744177664)
    (next:∀h' D6 FA,OS h' D6 (len+m) FA e sz (cs++news)->DE false P r F n all l Q ((d,.slice D6 (len+m) FA)::env) (h'::rest) ds):
    DE false P r F n all (o::l) Q env own ds:=by
  refine Jl hd hn hg (by rw [ho];rfl) fun A w hA hs=> ?_
  obtain⟨i,z,g1,g2,g3,g4,g5,g6⟩:=g.all;subst g5;subst g6;have s1:Sat (own++ [F]) w:=hs.perm (List.perm_append_comm (l₁:= [F]) (l₂:=own));have hpos':0<news.length:=by rw [Gt];exact Nat.mul_pos hm GJ
  have Kr:∀j v,news[j]?=some v->w.cell? (a.add j)=some v:=fun j v hj=>by
    obtain⟨a',e1,e2,e3⟩:=mm.cell s1 hj;cases e1;obtain⟨b,off,sp⟩:=a;simp only at e2
    subst e2;rw [Es];exact e3
  have s2:Sat (h::(rest++ [F])) w:=s1.perm (tk.perm.append_right [F]);obtain⟨h',D6,FA,w',FE,HS,s3⟩:=PS (P:=P) (ty:=o.type) (c:=mc) g1 g2 g3 g4 os s2 hm Gt Kr (by simpa using h1) FJ hlen;refine⟨_,w',h'::rest,?_,s3.perm (List.perm_append_comm (l₁:=h'::rest) (l₂:= [F])),next h' D6 FA HS⟩;simp [execOp,ho,resolve,hc,Jc,FD,invoke,builtin,hA.eval hx,hA.eval hy,FE]
def WB:Nat->List Value->Option (List Value)
  |0,_=>some []
  |k+1,zc=>XR zc (WB k zc)
theorem X3(zc:List Value):∀k,WB k zc=some (List.replicate k zc).flatten:=by
  intro k;induction k with
  |zero=>rfl
  |succ k ih=>simp [WB,ih,S9,List.replicate_succ]
theorem X4(zc:List Value):∀k i,i<k*zc.length->(List.replicate k zc).flatten[i]?=zc[i%zc.length]?:=by
  intro k;induction k with
  |zero=>intro i h;simp at h
  | succ k ih=>
    intro i h;rw [List.replicate_succ,List.flatten_cons];by_cases hi:i<zc.length
    · rw [List.getElem?_append_left hi,Nat.mod_eq_of_lt hi]
    · rw [List.getElem?_append_right Ab,ih _ (by rw [Nat.add_mul] at h;omega)]
      congr 1
      conv=>rhs;rw [show i=(i - zc.length)+zc.length by omega,Nat.add_mod_right]
theorem Rk{t e:TypeId}{sz bytes len:Nat}{ps:Array (Nat×Operand)}{qs:List (Nat×Value)}{zv:Value}{zc zs cs:List Value}{d:Nat}{de:TypeDesc}{ti:TypeInfo} [g:NI P t e sz bytes] [z:Ty P e de zv ti]
    (hd:o.dst=some d) (hn:Nat.blt d n=true) (hg:C6 all env o=some true) (ho:o.op= .buildSlice t len ps) (hp:T7 env ps.toList=some qs)
    (Sq:EA zv=some zc) (Vv:zc.length=sz) (hz:WB len zc=some zs) (hb:Lp (fun i=>some (i*sz,sz)) zs qs=some cs) (Qv:Nat.ble (len*sz) 16777216=true)
    (next:∀b,DE false P r F n all l Q ((d,.slice (some ⟨b,0,none⟩) len len)::env) (CV b (.cells ⟨cs⟩ e (0,0))::own) ds):
    DE false P r F n all (o::l) Q env own ds:=by
  refine Jl hd hn hg (by rw [ho];rfl) fun A w hA hs=> ?_
  obtain⟨i,z',g1,g2,g3,g4,g5,g6⟩:=g.all;have e1:(ps.map fun(p:Nat×Operand)=>(p.1,A.eval p.2))=(⟨qs⟩:Array (Nat×Value)):=Array.ext' (by simpa using Oo hA hp);refine⟨.slice (some ⟨w.heap.size,0,none⟩) len len,{w with heap:=w.heap.push (.cells ⟨cs⟩ e (0,0))},_,?_,(EN hs _ (fun _=>by simp [Pt])).swap,next w.heap.size⟩;have hbig':¬16777216<len*sz:=by have:=Nat.le_of_ble_eq_true Qv;omega
  have hzr:=X3 zc len;rw [hz] at hzr
  simp only [Option.some.injEq] at hzr
  have hfill:=fill_eq hb;have Hs:(sizeOf e).run P w= .ok sz w:=by rw [Ej g2,g5]
  have hzero:((Array.range (len*sz)).map fun j=>(⟨zc⟩:Array Value)[j%(⟨zc⟩:Array Value).size]!)=⟨zs⟩:=by
    apply Array.ext';apply List.ext_getElem?;intro j;have Wt:(⟨zc⟩:Array Value).size=sz:=Vv;rw [Wt];by_cases hj:j<len*sz
    · have hszpos:0<sz:=Nat.pos_of_ne_zero fun e=>by rw [e] at hj;simp at hj
      have hm:j%sz<zc.length:=by rw [Vv];exact Nat.mod_lt _ hszpos
      rw [hzr,X4 zc len j (by rw [Vv];exact hj),Vv];simp [hj,hm]
    · rw [hzr,List.getElem?_eq_none As,List.getElem?_eq_none (by simp [Vv];omega)]
  simp only [execOp,ho];rw [show(ps.map fun(x:Nat×Operand)=>match x with|(i,x)=>(i,A.eval x))=(⟨qs⟩:Array (Nat×Value)) from e1];by_cases h0:len*sz=0
  · have iu:zs= []:=by
      have:zs.length=len*sz:=by rw [hzr];simp [Vv]
      rw [h0] at this;exact List.length_eq_zero_iff.1 this
    rw [iu] at hfill
    have Sy:(Array.range 0).map (fun(_:Nat)=>(default:Value))=⟨[]⟩:=by simp
    simp [Instr.buildSlice,Di g1,Hs,h0,Sy,hfill,newRow]
  · have hc:=Fg Sq;have hzero':((Array.range (len*sz)).map fun j=>zv.cells[j%zv.cells.size]!)=⟨zs⟩:=by rw [hc];exact hzero
    simp [Instr.buildSlice,Di g1,Hs,h0,hbig',z.z,hzero',hfill,newRow]
end
def NJ(P:Program)(r:Option Nat)(F:CA)(n:Nat)(c:Code)(Q:DD):Nat->Env->List CA->List Deferred->Prop
  |0,_,_,_=>False
  |m+1,env,own,ds=>DI P r F n c (Re (NJ P r F n c Q m) Q) env own ds
theorem HY{P:Program}{r:Option Nat}{F:CA}{n:Nat}{Q:DD}{env:Env}{own:List CA}{ds:List Deferred}{c:Code}(m:Nat)(h:NJ P r F n c Q m env own ds):DI P r F n (.loop c) Q env own ds:=by
  have key:∀m env own ds,NJ P r F n c Q m env own ds->∀a w,Has n env a->a.defers=ds->Sat (F::own) w->Code.roundsIn (Pv r) 0 P c (H9 F n Q) m a w:=by
    intro m;induction m with
    |zero=>intro _ _ _ h;exact h.elim
    | succ m ih=>
      intro env own ds h a w ha hd hs;refine wpIn_mono (h a w ha hd hs) fun e a' w' ⟨he,env',own',h1,h2,h3⟩=> ?_
      cases e with
      |normal=>exact ih _ _ _ h3 a' w' h1 rfl h2
      |outgrown=>exact absurd rfl he
      |_=>exact⟨he,env',own',h1,h2,h3⟩
  exact fun a w ha hd hs=>wpIn_loop_rounds m (key m env own ds h a w ha hd hs)
theorem Lw{P:Program}{r:Option Nat}{F:CA}{n:Nat}{Q:DD}{env:Env}{own:List CA}{ds:List Deferred}{c:Code}{m:Nat}(h:DI P r F n c (Re (NJ P r F n c Q m) Q) env own ds):NJ P r F n c Q (m+1) env own ds:=h
end Go.SL
end
section
namespace Go.SL
def Et(P:Program)(hs:List CA)(n:Nat)(o:Oper)(env:Env)(R:Value->List CA->Prop):Prop:=
  EX o.op=true/\∀a w X,Has n env a->Sat (hs++X) w->∃w',
    (∃v own,(execOp a.eval o).run P w= .ok (.value v) w'/\Sat (own++X) w'/\R v own)∨
    (∃own,(execOp a.eval o).run P w= .ok .skip w'/\Sat (own++X) w'/\R undef own)∨
    (∃f args,(execOp a.eval o).run P w= .ok (.enter f args) w'/\Calls P f args w' fun e MN=>∃v own,e= .returned v/\Sat (own++X) MN/\R v own)∨
    (∃L f tmps assign body,(execOp a.eval o).run P w= .ok (.round L f tmps assign body) w'/\∀r,RoundIn (Pv r) 0 P L f tmps assign body w' fun e MN=>∃v own,e= .returned v/\Sat (own++X) MN/\R v own)
theorem cV{P:Program}{r:Option Nat}{hs X:List CA}{n:Nat}{o:Oper}{env:Env}{R:Value->List CA->Prop}(h:Et P hs n o env R)
    {all:Array Oper} {Q:Exit->Act->World->Prop} {i:Nat} {K:Act->World->Prop} {a:Act} {w:World} (hi:all[i]?=some o)
    (hw:Region.wanted o (yielded all a.tmps)=true) {a':Act} (ha:Has n env a') (he:execOp a.eval o=execOp a'.eval o) (hs':Sat (hs++X) w)
    (hk:∀v own w',R v own->Sat (own++X) w'->K (a.put o.dst v) w'):wpOpIn (Pv r) 0 P all Q i K a w:=by
  simp only [wpOpIn,hi,hw,if_true];refine⟨fun f _=>by simp,?_⟩;rw [Ff,semAt_plain h.1,he];obtain⟨w',⟨v,own,h1,h2,h3⟩|⟨own,h1,h2,h3⟩|⟨f,args,h1,h2⟩|⟨L,f,tmps,as,body,h1,h2⟩⟩:=h.2 a' w X ha hs'
  · rw [h1];exact hk v own w' h3 h2
  · rw [h1];exact hk undef own w' h3 h2
  · rw [h1];refine⟨fun hx=>by simp at hx,(F0 _ h2).mono ?_⟩;rintro e MN ⟨v,own,rfl,s2,hR⟩;exact hk v own MN hR s2
  · rw [h1];refine⟨fun hx=>by simp at hx,(h2 r).mono ?_⟩;rintro e MN ⟨v,own,rfl,s2,hR⟩;exact hk v own MN hR s2
def Hc(all:Array Oper)(vs:Nat->Value):List Nat->Env->Env
  | [],env=>env
  |i::l,env=>Hc all vs l (match(all[i]?).bind (·.dst) with|some d=>(d,vs i)::env|none=>env)
theorem SX{all:Array Oper}{vs:Nat->Value}:∀ {l:List Nat} {i:Nat} {env:Env},Hc all vs (l++ [i]) env=(match(all[i]?).bind (·.dst) with|some d=>(d,vs i)::Hc all vs l env|none=>Hc all vs l env):=by
  intro l;induction l with
  |nil=>intro i env;rfl
  |cons j l ih=>intro i env;simp only [List.cons_append,Hc];exact ih
theorem Ga{all:Array Oper}{vs ai:Nat->Value}:∀ {l:List Nat} {env:Env},(∀i∈l,vs i=ai i)->Hc all vs l env=Hc all ai l env:=by
  intro l;induction l with
  |nil=>intro env _;rfl
  | cons j l ih=>
    intro env h;simp only [Hc];rw [h j (List.mem_cons_self ..),ih fun i hi=>h i (List.mem_cons_of_mem _ hi)]
theorem LI{all:Array Oper}{L:Nat->Bool}{s j:Nat}:∀ {m:Nat},D5 all L s m=some j->L j=true/\(all[j]?).bind (·.dst)=some s/\j<m:=by
  intro m;induction m with
  |zero=>intro h;cases h
  | succ m ih=>
    intro h;simp only [D5] at h
    split at h
    · cases h;rename_i h2;simp only [Bool.and_eq_true,beq_iff_eq] at h2;exact⟨h2.1,h2.2,by omega⟩
    · obtain⟨a,b,c⟩:=ih h;exact⟨a,b,by omega⟩
def dX(all:Array Oper)(l:List Nat):Prop:=l.Pairwise fun k k'=>∀s,(all[k]?).bind (·.dst)=some s->(all[k']?).bind (·.dst)=some s->k<k'
theorem ZB{all:Array Oper}{vs:Nat->Value}{env:Env}{s:Nat}(l:List Nat)(ha:dX all l)(hl:∀i∈l,i<all.size):
    look (Hc all vs l env) s=match D5 all (fun j=>l.contains j) s all.size with|some j=>some (vs j)|none=>look env s:=by
  suffices h:∀k:List Nat,dX all k.reverse->(∀i∈k.reverse,i<all.size)->look (Hc all vs k.reverse env) s=match D5 all (fun j=>k.reverse.contains j) s all.size with|some j=>some (vs j)|none=>look env s by
    have:=h l.reverse;rw [List.reverse_reverse] at this
    exact this ha hl
  clear ha hl l;intro k;induction k with
  | nil=>
    intro _ _;simp only [List.reverse_nil];have:∀m,D5 all (fun j=>([]:List Nat).contains j) s m=none:=by
      intro m;induction m with
      |zero=>rfl
      |succ m ih=>simp only [D5,ih];simp
    rw [this];rfl
  | cons i k ih=>
    rw [List.reverse_cons]
    generalize k.reverse=l at ih ⊢
    intro oz E6;rw [SX];have hasc':=List.pairwise_append.1 oz;have ih':=ih hasc'.1 (fun j hj=>E6 j (List.mem_append.2 (.inl hj)));have hi:=E6 i (List.mem_append.2 (.inr (List.mem_singleton.2 rfl)));by_cases hd:(all[i]?).bind (·.dst)=some s
    · have hl:D5 all (fun j=>(l++ [i]).contains j) s all.size=some i:=by
        rw [GQ (i:=i+1) Ab (fun j g1 g2 g3 g4=> ?_)]
        · simp only [D5];rw [if_pos (by simp [hd])]
        · simp only [List.contains_eq_mem,decide_eq_true_eq,List.mem_append,List.mem_singleton] at g3
          rcases g3 with g3|g3
          · have:=hasc'.2.2 j g3 i (List.mem_singleton.2 rfl) s g4 hd;omega
          · omega
      rw [hl,hd];simp [Fy]
    · have hl:D5 all (fun j=>(l++ [i]).contains j) s all.size=D5 all (fun j=>l.contains j) s all.size:=by
        refine GH fun j _ hw=> ?_
        have:j≠i:=fun e=>by subst e;exact hd hw
        simp [this]
      rw [hl,<-ih'];cases ZQ:(all[i]?).bind (·.dst) with
      |none=>rfl
      | some d=>
        have:d≠s:=fun e=>hd (e▸ZQ)
        exact HN _ _ this
def mG(all:Array Oper)(k k':Nat):Bool:=match(all[k]?).bind (·.dst) with
  |some d=> !((all[k']?).bind (·.dst) ==some d) ||Nat.blt k k'
  |none=>true
def gR(all:Array Oper):List Nat->Bool
  | []=>true
  |k::l=>l.all (fun k'=>mG all k k') && gR all l
theorem Z7{all:Array Oper}:∀ {l:List Nat},gR all l=true->dX all l:=by
  intro l;induction l with
  |nil=>intro _;exact List.Pairwise.nil
  | cons k l ih=>
    intro h;simp only [gR,Bool.and_eq_true,List.all_eq_true] at h
    refine List.Pairwise.cons (fun k' Oh s h1 h2=> ?_) (ih h.2);have:=h.1 k' Oh;unfold mG at this
    rw [h1] at this
    simp only [h2,beq_self_eq_true,Bool.not_true,Bool.false_or] at this
    exact Nat.le_of_ble_eq_true this
def Qa:List Nat->Bool
  | []=>true
  |i::l=> !l.contains i && Qa l
theorem ON:∀ {l:List Nat},Qa l=true->l.Nodup:=by
  intro l;induction l with
  |nil=>intro _;exact List.nodup_nil
  | cons i l ih=>
    intro h;simp only [Qa,Bool.and_eq_true,Bool.not_eq_true',List.contains_eq_mem,decide_eq_false_iff_not] at h
    exact List.nodup_cons.2 ⟨h.1,ih h.2⟩
end Go.SL
end
section
namespace Go.SL
def YT(P:Program)(L:Nat)(args:List Value)(H:CA)(R:Value->CA->Prop):Prop:=
  ∀ w X,Sat (H::X) w->∃f tmps assign body,(Instr.yield L args.toArray).run P w= .ok (.round L f tmps assign body) w/\
    ∀r,RoundIn (Pv r) 0 P L f tmps assign body w fun e MN=>∃v H',e= .returned v/\Sat (H'::X) MN/\R v H'
def Iter(P:Program)(f:FuncId)(first captured:List Value)(hs:List CA)(xs:List (List Value)):Prop:=
  ∀ (L:Nat) (J:Nat->CA->Prop) (Jx:CA->Prop),
    (∀k x H,xs[k]?=some x->J k H->YT P L x H fun v H'=>(v= .bool true/\J (k+1) H')∨(v= .bool false/\Jx H'))->
    ∀H,J 0 H->T P f (first++ [.func (.yield L) #[] #[]]++captured) (H::hs) fun e own'=>e= .returned (.tuple #[])/\∃H',own'=H'::hs/\(J xs.length H'∨Jx H')
theorem L1{P:Program}{n:Nat}{env:Env}{a:Act}{o:Oper}{c:Call}{x:Operand}{L:Nat}{vs:List Value}(ha:Has n env a)
    (ho:o.op= .call c) (hc:c.callee= .value x) (hx:ev env x=some (.func (.yield L) #[] #[])) (Ko:OW env c.args.toList=some vs) (w:World):
    (execOp a.eval o).run P w=(Instr.yield L vs.toArray).run P w:=by
  have h1:c.args.map a.eval=vs.toArray:=Array.ext' (by simpa using Lk ha Ko);simp only [execOp,ho,resolve,hc,ha.eval hx,h1,Deferred.ofValue];simp [invoke]
theorem Su{P:Program}{n:Nat}{env:Env}{o:Oper}{c:Call}{x:Operand}{L:Nat}{vs:List Value}{H:CA}{R:Value->CA->Prop}
    (ho:o.op= .call c) (hc:c.callee= .value x) (hx:ev env x=some (.func (.yield L) #[] #[])) (Ko:OW env c.args.toList=some vs) (h:YT P L vs H R):
    Et P [H] n o env fun v own'=>∃H',own'= [H']/\R v H':=by
  refine⟨by rw [ho];rfl,fun a w X ha hs=> ?_⟩;obtain⟨f,tmps,assign,body,h1,h2⟩:=h w X hs;refine⟨w,.inr (.inr (.inr ⟨L,f,tmps,assign,body,(L1 ha ho hc hx Ko w).trans h1,fun r=>(h2 r).mono ?_⟩))⟩;rintro e MN ⟨v,H',he,s,hR⟩;exact⟨v,[H'],he,s,H',rfl,hR⟩
theorem Vx{P:Program}{n:Nat}{env:Env}{o:Oper}{c:Call}{x:Operand}{f:FuncId}{first captured:Array Value}{vs FI:List Value}{hs:List CA}{R:Value->List CA->Prop} [Enters P f]
    (ho:o.op= .call c) (hc:c.callee= .value x) (hx:ev env x=some (.func (.func f) first captured)) (Ko:OW env c.args.toList=some vs)
    (Fp:Lq first.toList vs captured.toList=some FI) (h:T P f FI hs fun e own'=>∃v,e= .returned v/\R v own'):
    Et P hs n o env R:=by
  refine⟨by rw [ho];rfl,fun a w X ha hs=> ?_⟩;refine⟨w,.inr (.inr (.inl ⟨f,_,M7 ha ho hc hx Ko w,?_⟩))⟩;have e:first++vs.toArray++captured=FI.toArray:=by rw [<-Pw Fp];simp
  rw [e];refine(h w X hs).mono ?_;rintro e MN ⟨own',s,v,he,hR⟩;exact⟨v,own',he,s,hR⟩
def IT:List CA->List CA->Option (List CA)
  | [],b=>some b
  |v::r,b=>match IT r b with|some l=>some (v::l)|none=>none
theorem Gd:∀ {a b l:List CA},IT a b=some l->l=a++b:=by
  intro a;induction a with
  |nil=>intro b l h;cases h;rfl
  | cons v r ih=>
    intro b l h;simp only [IT] at h
    cases e:IT r b with
    |none=>rw [e] at h;cases h
    |some l'=>rw [e] at h;cases h;rw [ih e];rfl
section
variable {P:Program} {r:Option Nat} {F:CA} {n:Nat} {Q:DD} {env:Env} {own rest hs IN F6:List CA} {ds:List Deferred} {all:Array Oper} {l:List Oper} {o:Oper} {id:Nat}
theorem Mn{d:Nat}{R:Value->List CA->Prop}(hd:o.dst=some d)(hn:Nat.blt d n=true)(hg:C6 all env o=some true) [t:Dx own hs rest](h:Et P hs n o env R)
    (hr:∀v own',R v own'->∃Dp,IT own' rest=some Dp/\DE false P r F n all l Q ((d,v)::env) Dp ds):DE false P r F n all (o::l) Q env own ds:=fun k hk=>by
  obtain⟨i,k',rfl,hi,Oh⟩:=YZ hk;intro a w ha OT hs';rw [wpOpsIn_cons];have pp:(F::own).Perm (hs++(rest++ [F])):=(List.perm_append_comm (l₁:= [F]) (l₂:=own)).trans (by rw [<-List.append_assoc];exact t.perm.append_right [F]);refine cV h hi (Ee ha hg) ha rfl (hs'.perm pp) fun v own' w' hR s=> ?_
  rw [hd];obtain⟨Dp,e2,h2⟩:=hr v own' hR;rw [Gd e2] at h2
  exact h2 k' Oh _ w' (ha.put v (Nat.le_of_ble_eq_true hn)) OT (s.perm (by rw [<-List.append_assoc];exact List.perm_append_comm (l₁:=own'++rest) (l₂:= [F])))
def P2(all:Array Oper):List Nat->Option (List Oper)
  | []=>some []
  | i ::l=>match all[i]? with
    | some o=>match P2 all l with
      |some r=>some (o::r)
      |none=>none
    |none=>none
theorem P1{all:Array Oper}:∀ {l:List Nat} {r:List Oper},P2 all l=some r->l.map (fun i=>all[i]?)=r.map some:=by
  intro l;induction l with
  |nil=>intro r h;cases h;rfl
  | cons i l ih=>
    intro r h;simp only [P2] at h
    cases h1:all[i]? with
    |none=>rw [h1] at h;cases h
    | some o=>
      rw [h1] at h
      cases h2:P2 all l with
      |none=>rw [h2] at h;cases h
      |some r'=>rw [h2] at h;cases h;simp [h1,ih h2]
def mq(all:Array Oper)(n:Nat):Bool:=all.toList.all fun o=>match o.dst with|some d=>Nat.blt d n|none=>true
theorem ZY{all:Array Oper}{n:Nat}(h:mq all n=true):∀(i d:Nat),(all[i]?).bind (·.dst)=some d->d<n:=by
  intro i d hd;cases hi:all[i]? with
  |none=>rw [hi] at hd;cases hd
  | some o=>
    rw [hi] at hd
    have hm:o∈all:=by rw [Array.mem_iff_getElem?];exact⟨i,hi⟩
    have:=List.all_eq_true.1 h o (by simpa using hm);simp only [Option.bind_some] at hd
    rw [hd] at this
    exact Nat.le_of_ble_eq_true this
theorem N4{K K':Env->Prop}(hk:∀env,K env->K' env):∀ {l:List Nat} {env:Env},Oy P F n all own K l env->Oy P F n all own K' l env:=by
  intro l;induction l with
  |nil=>intro env h;exact hk _ h
  | cons i l ih=>
    intro env h;simp only [Oy] at h ⊢
    obtain⟨o,v,h1,h2,h3,h4⟩:=h;exact⟨o,v,h1,h2,h3,ih h4⟩
end
def NF:List Nat->List Value->Env->Env
  |t::ts,v::vs,env=>NF ts vs ((t,v)::env)
  |_,_,env=>env
def Wa:List Nat->List Value->Env->Option Env
  |t::ts,v::vs,env=>Wa ts vs ((t,v)::env)
  |_,_,env=>some env
theorem QU:∀ {ts:List Nat} {vs:List Value} {env env':Env},Wa ts vs env=some env'->env'=NF ts vs env:=by
  intro ts;induction ts with
  |nil=>intro vs env env' h;cases h;rfl
  | cons t ts ih=>intro vs env env' h;cases vs with
    |nil=>cases h;rfl
    |cons v vs=>exact ih h
theorem HO{n:Nat}{env:Env}{a:Act}(h:Has n env a){ds:List Deferred}:Has n env {tmps:=a.tmps,defers:=ds}:=⟨h.size,h.get⟩
theorem dg{n:Nat}:∀ {ps:List Nat} {vs:List Value} {env:Env} {tmps:Array Value},(∀p∈ps,p<n)->Has n env {tmps:=tmps,defers:= []}->
    Has n (NF ps vs env) {tmps:=(ps.zip vs).foldl (fun tmps (t,a)=>tmps.setIfInBounds t a) tmps,defers:= []}:=by
  intro ps;induction ps with
  |nil=>intro vs env tmps _ h;simpa [NF] using h
  | cons p ps ih=>
    intro vs env tmps hp h;cases vs with
    |nil=>simpa [NF] using h
    | cons v vs=>
      simp only [NF,List.zip_cons_cons,List.foldl_cons];refine ih (fun q hq=>hp q (List.mem_cons_of_mem _ hq)) ?_;have:=h.put (d:=p) v (hp p (List.mem_cons_self ..));exact this
def MJ(J:List CA->Prop)(Jx:Code->List CA->Prop):DD
  | .normal,_,own,_=>∃own',(∀F w,Sat (F::own) w->Sat (F::own') w)/\J own'
  | .ret,_,own,_=>∃own',(∀F w,Sat (F::own) w->Sat (F::own') w)/\Jx .ret own'
  | .exit id,_,own,_=>∃own',(∀F w,Sat (F::own) w->Sat (F::own') w)/\Jx (.exit id) own'
  |_,_,_,_=>False
theorem PI{own hs rest:List CA} [t:Dx own hs rest](F:CA)(w:World)(s:Sat (F::own) w):Sat (F::hs) w:=(s.perm (t.perm.cons F)).sub (List.Sublist.cons_cons F (List.sublist_append_left _ _))
theorem Lx{J:List CA->Prop}{Jx:Code->List CA->Prop}{env:Env}{own rest:List CA}{ds:List Deferred}(hs:List CA) [t:Dx own hs rest](h:J hs):MJ J Jx .normal env own ds:=⟨hs,PI,h⟩
theorem JV{J:List CA->Prop}{Jx:Code->List CA->Prop}{env:Env}{own rest:List CA}{ds:List Deferred}(hs:List CA) [t:Dx own hs rest](h:Jx .ret hs):MJ J Jx .ret env own ds:=⟨hs,PI,h⟩
theorem M3{b:Nat}{o o':Obj}{hs:List CA}{w:World}(s:Sat (CV b o::hs) w)(hz:∀off,Pt o' off=Pt o off):Sat (CV b o'::hs) (w.putObj b o'):=by
  have hb:w.heap[b]?=some o:=s.at (List.mem_cons_self ..) (Dq _ _);exact s.put (World.putObj_heap_same (Array.getElem?_eq_some_iff.1 hb).1) rfl rfl (fun k hk=>World.putObj_heap_other hk) hz
theorem Vt(r:Option Nat)(L:Nat):(Pv r).inRound L=Pv (some L):=by cases r <;>rfl
section
variable {P:Program} {F:CA} {n:Nat} {Q:DD} {env:Env} {own rest hsI:List CA} {ds:List Deferred} {assign body:Code}
theorem PB{L:Nat}{rc:Loop}{x:List Value}{own1:List CA}{K:List CA->Prop}{Kx:Code->List CA->Prop}
    (hh:Has n env {tmps:=rc.tmps,defers:= []}) (hp:∀p∈rc.params.toList,p<n) (hl:x.length=rc.params.size) (Gy:rc.state= .ready)
    (hd:(CV L (.loop rc)::own1).Pairwise Eo)
    (hr:∀F,DI P (some L) F n rc.assign (Re (fun J6 Dp gC=>∀F2,DI P (some L) F2 n rc.body (MJ K Kx) J6 Dp gC) fun _ _ _ _=>False) (NF rc.params.toList x env) own1 []):
    YT P L x (Da (CV L (.loop rc)::own1)) fun v H'=>
      (v= .bool true/\∃Dp,(CV L (.loop {rc with state:= .ready,pending:=none})::Dp).Pairwise Eo/\H'=Da (CV L (.loop {rc with state:= .ready,pending:=none})::Dp)/\K Dp)∨
      (v= .bool false/\∃c Dp,(CV L (.loop {rc with state:= .done,pending:=some c})::Dp).Pairwise Eo/\H'=Da (CV L (.loop {rc with state:= .done,pending:=some c})::Dp)/\Kx c Dp):=by
  intro w X s;have s1:Sat ((CV L (.loop rc)::own1)++X) w:=s.IL hd;have hL:w.heap[L]?=some (.loop rc):=s1.at (List.mem_cons_self ..) (Dq _ _);refine⟨rc.fn,_,rc.assign,rc.body,run_yield hL (by simpa using hl),fun r=>roundIn_of_wpIn Am ?_⟩;rw [Vt];have s2:Sat (Da (CV L (.loop rc)::X)::own1) w:=by
    refine Sat.Da (hs:=CV L (.loop rc)::X) (s1.perm ?_);exact(List.perm_append_comm (l₁:=own1) (l₂:=X)).cons _
  have hpX:(CV L (.loop rc)::X).Pairwise Eo:=(s1.sub (List.Sublist.cons_cons _ (List.sublist_append_right _ _))).dj;have ha:Has n (NF rc.params.toList x env) {tmps:=(rc.params.zip x.toArray).foldl (fun tmps (t,a)=>tmps.setIfInBounds t a) rc.tmps,defers:= []}:=by
    have:=dg (vs:=x) hp hh;rw [<-Array.foldl_toList,Array.toList_zip];exact this
  refine wpIn_mono (hr _ _ w ha rfl s2) fun e XP Rh ⟨he,J6,Dp,h1,h2,h3⟩=> ?_
  cases e with
  | normal=>
    have s3:Sat (CV L (.loop rc)::(X++Dp)) Rh:=h2.IL hpX;have hL1:Rh.heap[L]?=some (.loop rc):=s3.at (List.mem_cons_self ..) (Dq _ _);refine⟨_,run_beginRound hL1 Gy,?_⟩;have s4:Sat (CV L (.loop {rc with state:= .busy})::(X++Dp)) (Rh.putObj L (.loop {rc with state:= .busy})):=M3 s3 (fun _=>rfl);have hpX':(CV L (.loop {rc with state:= .busy})::X).Pairwise Eo:=(s4.sub (List.Sublist.cons_cons _ (List.sublist_append_left _ _))).dj;have s5:Sat (Da (CV L (.loop {rc with state:= .busy})::X)::Dp) (Rh.putObj L (.loop {rc with state:= .busy})):=Sat.Da (hs:=CV L _::X) s4;refine wpIn_mono (h3 _ XP _ h1 rfl s5) fun e sj aB ⟨he,env3,W6,g1,g2,g3⟩=> ?_
    have key:∀W6,Sat (Da (CV L (.loop {rc with state:= .busy})::X)::W6) aB->∀o',(∀off,Pt o' off=false)->aB.heap[L]?=some (.loop {rc with state:= .busy})/\Sat ((CV L o'::W6)++X) (aB.putObj L o'):=fun W6 g2 o' hz=>by
      have s6:Sat (CV L (.loop {rc with state:= .busy})::(X++W6)) aB:=g2.IL hpX';exact⟨s6.at (List.mem_cons_self ..) (Dq _ _),(M3 s6 hz).perm ((List.perm_append_comm (l₁:=X) (l₂:=W6)).cons _)⟩
    have stop:∀c,(∃own',(∀F w,Sat (F::W6) w->Sat (F::own') w)/\Kx c own')->∃v w',(Instr.endRound L (some c)).run P aB= .ok v w'/\∃v',∃H',Ending.returned v= .returned v'/\Sat (H'::X) w'/\
        ((v'= .bool true/\∃Dp,(CV L (.loop {rc with state:= .ready,pending:=none})::Dp).Pairwise Eo/\H'=Da (CV L (.loop {rc with state:= .ready,pending:=none})::Dp)/\K Dp)∨
        (v'= .bool false/\∃c Dp,(CV L (.loop {rc with state:= .done,pending:=some c})::Dp).Pairwise Eo/\H'=Da (CV L (.loop {rc with state:= .done,pending:=some c})::Dp)/\Kx c Dp)):=fun c ⟨W5,hw,hc⟩=>by
      have fin:=(key W5 (hw _ _ g2) (.loop {rc with state:= .done,pending:=some c}) (fun _=>rfl)).2;exact⟨_,_,run_endRound (some c) (key W5 (hw _ _ g2) (.loop rc) (fun _=>rfl)).1,_,_,rfl,Sat.Da (ks:=X) fin,.inr ⟨rfl,c,W5,(fin.sub (List.sublist_append_left _ _)).dj,rfl,hc⟩⟩
    cases e with
    | normal=>
      obtain⟨W5,hw,hc⟩:=g3;have fin:=(key W5 (hw _ _ g2) (.loop {rc with state:= .ready,pending:=none}) (fun _=>rfl)).2;exact⟨_,_,run_endRound none (key W5 (hw _ _ g2) (.loop rc) (fun _=>rfl)).1,_,_,rfl,Sat.Da (ks:=X) fin,.inl ⟨rfl,W5,(fin.sub (List.sublist_append_left _ _)).dj,rfl,hc⟩⟩
    |ret=>exact stop _ g3
    |exit id=>exact stop _ g3
    |goto _=>exact g3.elim
    |panic _=>exact g3.elim
    |outgrown=>exact g3.elim
  |outgrown=>exact absurd rfl he
  |ret=>exact h3.elim
  |exit _=>exact h3.elim
  |goto _=>exact h3.elim
  |panic _=>exact h3.elim
theorem Y1{g:Operand}{ps:Array Tmp}{f:FuncId}{first captured:Array Value}{xs:List (List Value)} [he:Enters P f] [t:Dx own hsI rest]
    (J:Nat->List CA->Prop) (Jx:Code->List CA->Prop)
    (hg:ev env g=some (.func (.func f) first captured)) (hI:Iter P f first.toList captured.toList hsI xs)
    (au:ps.toList.all (fun p=>Nat.blt p n)=true) (rm:∀x∈xs,x.length=ps.size) (h0:J 0 rest)
    (MA:∀L k x own1,xs[k]?=some x->J k own1->∀F,∃Ll,Wa ps.toList x env=some Ll/\DI P (some L) F n assign (Re (fun J6 Dp gC=>∀F2,DI P (some L) F2 n body (MJ (J (k+1)) Jx) J6 Dp gC) fun _ _ _ _=>False) Ll own1 [])
    (Le:∀D own1,J xs.length own1->∃Dp,IT own1 hsI=some Dp/\Q .normal env (CV D (.deferred (some []))::Dp) (mark D::ds))
    (Lb:∀D c own1,Jx c own1->∃Dp,IT own1 hsI=some Dp/\DI P none F n c Q env (CV D (.deferred (some []))::Dp) (mark D::ds)):
    DI P none F n (.rangeFunc g ps assign body) Q env own ds:=by
  have MA:∀L k x own1,xs[k]?=some x->J k own1->∀F,DI P (some L) F n assign (Re (fun J6 Dp gC=>∀F2,DI P (some L) F2 n body (MJ (J (k+1)) Jx) J6 Dp gC) fun _ _ _ _=>False) (NF ps.toList x env) own1 []:=fun L k x own1 hx hJ F=>by
    obtain⟨Ll,e,h⟩:=MA L k x own1 hx hJ F;rw [QU e] at h;exact h
  have Le:∀D own1,J xs.length own1->Q .normal env (CV D (.deferred (some []))::(own1++hsI)) (mark D::ds):=fun D own1 hJ=>by
    obtain⟨Dp,e,h⟩:=Le D own1 hJ;rw [Gd e] at h;exact h
  have Lb:∀D c own1,Jx c own1->DI P none F n c Q env (CV D (.deferred (some []))::(own1++hsI)) (mark D::ds):=fun D c own1 hJ=>by
    obtain⟨Dp,e,h⟩:=Lb D c own1 hJ;rw [Gd e] at h;exact h
  intro a w ha hd hs;refine wpIn_rangeFunc fun fn _=> ?_
  let L:=w.heap.size+1
  let rc:Loop:={state:= .ready,pending:=none,fn,tmps:=a.tmps,params:=ps,assign,body,defers:=w.heap.size}
  let xv:Value:= .func (.yield L) #[] #[]
  let w1:=(w.alloc (.deferred (some []))).alloc (.loop rc)
  have Og:(resolve a.eval (rangeCall g L) 0).run P w1= .ok {target:= .fn (.func f) captured,args:=first++ #[xv]} w1:=by
    simp only [resolve,ha.eval hg,Deferred.ofValue,Sem.run_pure];simp [Act.eval,xv]
  have hinv:(invoke (.fn (.func f) captured) (first++ #[xv])).run P w1= .ok (.enter f (first++ #[xv]++captured)) w1:=he.run _ _;refine⟨L,[SL.mark w.heap.size],w1,{target:= .fn (.func f) captured,args:=first++ #[xv]},w1,f,first++ #[xv]++captured,w1,run_enterLoop_outer fn a.tmps ps assign body,Og,fun _ _=>by simp,hinv,fun hx=>by simp at hx,F0 _ ?_⟩;have e:first++ #[xv]++captured=(first.toList++ [xv]++captured.toList).toArray:=by apply Array.ext';simp
  rw [e];have sD:Sat (CV w.heap.size (.deferred (some []))::F::own) (w.alloc (.deferred (some []))):=EN hs _ (fun _=>rfl);have sL:Sat (CV L (.loop rc)::CV w.heap.size (.deferred (some []))::F::own) w1:=by
    have:=EN sD (.loop rc) (fun _=>rfl);rw [World.size_alloc] at this;exact this
  have sA:Sat ((CV L (.loop rc)::rest)++(hsI++ [CV w.heap.size (.deferred (some [])),F])) w1:=by
    refine sL.perm ((?_:List.Perm _ _).cons _);refine((t.perm.cons F).cons _).trans ?_;have p1:(CV w.heap.size (.deferred (some []))::F::(hsI++rest)).Perm ((hsI++rest)++ [CV w.heap.size (.deferred (some [])),F]):=List.perm_append_comm (l₁:= [CV w.heap.size (.deferred (some [])),F]) (l₂:=hsI++rest);refine p1.trans ?_;have p2:(hsI++rest).Perm (rest++hsI):=List.perm_append_comm;simpa [List.append_assoc] using p2.append_right [CV w.heap.size (.deferred (some [])),F]
  let lr:Loop->CA:=fun r=>CV L (.loop r)
  let JJ:Nat->CA->Prop:=fun k H=>∃own1,(lr rc::own1).Pairwise Eo/\H=Da (lr rc::own1)/\J k own1
  let JX:CA->Prop:=fun H=>∃c own1,(lr {rc with state:= .done,pending:=some c}::own1).Pairwise Eo/\H=Da (lr {rc with state:= .done,pending:=some c}::own1)/\Jx c own1
  have hpn:∀p∈ps.toList,p<n:=fun p hp=>Nat.le_of_ble_eq_true (List.all_eq_true.1 au p hp)
  have hT:=hI L JJ JX (fun k x H hx hJ=>by
    obtain⟨own1,Ks,rfl,hJ⟩:=hJ;exact PB (rc:=rc) (HO ha) hpn (rm x (List.mem_of_getElem? hx)) rfl Ks (MA L k x own1 hx hJ)) _ ⟨rest,(sA.sub (List.sublist_append_left _ _)).dj,rfl,h0⟩
  refine(hT w1 [CV w.heap.size (.deferred (some [])),F] (by simpa using sA.Da)).mono ?_;rintro e w3 ⟨own',s3,rfl,H',rfl,hJ⟩;have done:∀(r3:Loop) own1,(lr r3::own1).Pairwise Eo->H'=Da (lr r3::own1)->r3.state≠ .busy->
      ∃w4,(Instr.endLoop L).run P w3= .ok r3.pending w4/\Sat (F::(CV w.heap.size (.deferred (some []))::(own1++hsI))) w4:=by
    rintro r3 own1 Ks rfl Gy;have s4:Sat (lr r3::(own1++(hsI++ [CV w.heap.size (.deferred (some [])),F]))) w3:=by
      have:Sat (Da (lr r3::own1)::(hsI++ [CV w.heap.size (.deferred (some [])),F])) w3:=by simpa using s3
      simpa using this.IL Ks
    have hL3:w3.heap[L]?=some (.loop r3):=s4.at (List.mem_cons_self ..) (Dq _ _);refine⟨_,run_endLoop hL3 Gy,?_⟩;have s5:=(M3 (o':= .loop {r3 with state:= .exhausted}) s4 (fun _=>rfl)).tail;refine s5.perm ?_;have p1:((own1++hsI)++ [CV w.heap.size (.deferred (some [])),F]).Perm ([F,CV w.heap.size (.deferred (some []))]++(own1++hsI)):=
      List.perm_append_comm.trans ((List.Perm.swap F _ []).append_right _)
    simpa [List.append_assoc] using p1
  rcases hJ with ⟨own1,Ks,hH,hJ⟩|⟨c,own1,Ks,hH,hJ⟩
  · obtain⟨w4,h1,h2⟩:=done rc own1 Ks hH (by simp [rc]);refine⟨none,w4,h1,?_⟩;exact H9.mk (ds:=SL.mark w.heap.size::ds) Am (HO ha) (by simp [hd]) h2 (Le _ _ hJ)
  · obtain⟨w4,h1,h2⟩:=done _ own1 Ks hH Am;refine⟨some c,w4,h1,?_⟩;exact Lb _ _ _ hJ _ w4 (HO ha) (by simp [hd]) h2
end
end Go.SL
end
section
namespace Go.SL
section
variable {P:Program} {r:Option Nat} {F:CA} {n:Nat} {Q:DD} {env:Env} {own rest hs own':List CA} {ds:List Deferred}
theorem C4{S:Type}(E:S->Env)(O:S->List CA)(I:S->Prop)(μ:S->Nat){c:Code}(s0:S) [t:Dx own (O s0) rest]
    (he:Sub (E s0) env) (hI:I s0)
    (round:∀s,I s->DI P r F n c (Re (fun env' own' ay=>ay=ds/\∃s',(Sub (E s') env'/\∀w,Sat (F::own') w->Sat (F::O s') w)/\I s'/\μ s'<μ s) Q) (E s) (O s) ds):
    DI P r F n (.loop c) Q env own ds:=by
  refine DI.weaken (env':=E s0) (own':=O s0) he (fun w s=>(s.perm (t.perm.cons F)).sub (List.Sublist.cons_cons F (List.sublist_append_left _ _))) ?_;refine aP (fun env own m=>∃s,env=E s/\own=O s/\m=μ s/\I s) (μ s0) ?_ ⟨s0,rfl,rfl,rfl,hI⟩;rintro env own m ⟨s,rfl,rfl,rfl,hs⟩;refine(round s hs).mono fun e env own ds h=> ?_
  cases e with
  | normal=>
    obtain⟨h1,s',⟨h2,h3⟩,h4,h5⟩:=h;exact⟨h1,E s',O s',μ s',h5,h2,h3,s',rfl,rfl,rfl,h4⟩
  |_=>exact h
theorem CX{E:Env}{O:List CA} [t:Dx own O rest](h:Sub E env):Sub E env/\∀w,Sat (F::own) w->Sat (F::O) w:=
  ⟨h,fun _ s=>(s.perm (t.perm.cons F)).sub (List.Sublist.cons_cons F (List.sublist_append_left _ _))⟩
theorem DH{c:Code}(h:DI P r F n c Q env (emp::own) ds):DI P r F n c Q env own ds:=fun a w ha hd s=>by
  have:Sat (emp::F::own) w:=⟨fun h hh=>by
    rcases List.mem_cons.1 hh with rfl|hh
    · intro b o e;cases e
    · exact s.le h hh,List.pairwise_cons.2 ⟨fun _ _ _ _ _ e _=>(by cases e),s.dj⟩⟩
  exact h a w ha hd this.swap
theorem CK{all:Array Oper}{l:List Oper}{o:Oper}{c:Call}{x:Operand}{f:FuncId}{first captured:Array Value}{vs FI:List Value}{R:Ending->List CA->Prop} [Enters P f] [t:Dx own hs rest]{d:Nat}
    (hd:o.dst=some d) (hn:Nat.blt d n=true) (hg:C6 all env o=some true)
    (ho:o.op= .call c) (hc:c.callee= .value x) (hx:ev env x=some (.func (.func f) first captured)) (Ko:OW env c.args.toList=some vs)
    (Fp:Lq first.toList vs captured.toList=some FI) (h:T P f FI hs R)
    (hr:∀e own',R e own'->∃v Dp,e= .returned v/\IT own' rest=some Dp/\DE false P r F n all l Q ((d,v)::env) Dp ds):
    DE false P r F n all (o::l) Q env own ds:=
  Ft hd hn hg ho hc hx Ko Fp h fun e own' hR=>by
    obtain⟨v,Dp,h1,h2,h3⟩:=hr e own' hR;exact .inl ⟨v,h1,by rw [<-Gd h2];exact h3⟩
instance Sl.none{h:CA}:Sl h none []:=⟨fun k v hk=>by cases hk⟩
theorem Gj{fn:Func}{own1:List CA}(hs:List CA){v:Value}{Q:Ending->List CA->Prop} [m:Marks ds own own1](hr:IK P fn.results.toList own1 env n v)
    (hw:∀F w,Sat (F::own1) w->Sat (F::hs) w) (hq:Q (.returned v) hs):Mf P fn n Q .ret env own ds:=⟨v,own1,hs,m,hr,hw,hq⟩
end
end Go.SL
end
