
import Derived.Test.YtcnmnmjmpocepaaGreatDoorU09
import Derived.Test.YtcnmnmjmpocepaaGreatDoorU07
import Derived.Laws.Strings
import Derived.Laws.Concat
import Derived.Laws.IdiomStrings
import Derived.Lib.SlBytesConst
import Derived.RecoverIn
import Derived.Maps.RangeRun
import Derived.Below
import Derived.RangeFuncRecord
set_option linter.unusedVariables false
set_option linter.unusedSimpArgs false
set_option linter.unusedSectionVars false
set_option maxRecDepth 100000
set_option maxHeartbeats 16000000
section
namespace Go.SL
section
variable {P:Program} {r:Option Nat} {F:B6} {n:Nat} {Q:C4} {env:Env} {own rest hs CR:List B6} {ds:List Deferred} {all:Array Oper} {l:List Oper} {o:Oper} {s:List Sg} {an:An} {ml:ML}
end
end Go.SL
end
section
namespace Go.SL
abbrev str(l:List UInt8):Value:= .string ⟨⟨l⟩⟩
def O0(l:List UInt8):List Value:=l.map fun x=> .int .u8 (x.toNat:Int)
@[simp] theorem Kv (l:List UInt8):(O0 l).length=l.length:=by simp [O0]
theorem TN(l m:List UInt8):O0 (l++m)=O0 l++O0 m:=by simp [O0]
theorem Zw{l:List UInt8}{k:Nat}{x:UInt8}(h:l[k]?=some x):(O0 l)[k]?=some (.int .u8 (x.toNat:Int)):=by simp [O0,h]
section
variable {P:Program} {own:List B6} {n:Nat} {env:Env} {o:Oper}
theorem EW{t:TypeId}{z:Value}{i:TypeInfo}{c:Call}{x:Operand}{l:List UInt8} [h1:Ty P t .string z i](ho:o.op= .call c)(hc:c.callee= .builtin .len)(Il:c.args= #[x])(E5:c.argTypes= #[t])
    (hx:ev env x=some (str l)):Dc P own n o env (.int .i64 (l.length:Int)):=
  De (by rw [ho];rfl) fun a w ha=>by
    have hs:(⟨⟨l⟩⟩:ByteArray).size=l.length:=rfl;simp [execOp,ho,resolve,hc,Il,E5,invoke,builtin,Builtin.len_,ha.eval hx,CL h1.u,goInt,hs]
theorem NW{t:TypeId}{z:Value}{i:TypeInfo}{x ix:Operand}{k:IntKind}{j:Int}{l:List UInt8}{b:UInt8} [h1:Ty P t .string z i](ho:o.op= .index t x ix)(hx:ev env x=some (str l))(hi:ev env ix=some (.int k j))
    (h0:0≤j) (hb:l[j.toNat]?=some b):Dc P own n o env (.int .u8 (b.toNat:Int)):=
  De (by rw [ho];rfl) fun a w ha=>by
    have Em:j.toNat<l.length:=(List.getElem?_eq_some_iff.1 hb).1;have e:(⟨⟨l⟩⟩:ByteArray)[j.toNat]?=some b:=by
      rw [ByteArray.getElem?_lt' _ _ (by simpa [ByteArray.size] using Em)];rw [<-hb,List.getElem?_eq_getElem Em];rfl
    simp [execOp,ho,ha.eval hx,ha.eval hi,Instr.index,asIntOf,CL h1.u,h0,e]
theorem FL{t u:TypeId}{x y:Operand}{l m:List UInt8}(ho:o.op= .binOp .eql t x y u)(hx:ev env x=some (str l))(hy:ev env y=some (str m)):Dc P own n o env (.bool (decide (l=m))):=
  De (by rw [ho];rfl) fun c w ha=>by
    have hg:∀w,(eqGuard .eql t x y (str l) (str m)).run P w= .ok () w:=fun w=>by simp [eqGuard]
    have e:((⟨⟨l⟩⟩:ByteArray).toList ==(⟨⟨m⟩⟩:ByteArray).toList)=decide (l=m):=by rw [ByteArray.toList_eq,ByteArray.toList_eq];rw [Bool.eq_iff_iff];simp
    simp only [execOp,ho,ha.eval hx,ha.eval hy];simp only [binOp_string_eql,e];simp [hg]
theorem Qs{t:TypeId}{l:List UInt8}{lo hi:Nat}(h:P.underlying t=some .string)(h1:lo≤hi)(h2:hi≤l.length)(fZ ga:Option Value)(w:World)
    (gm:fZ=none/\lo=0∨∃k,fZ=some (.int k (lo:Int))) (lO:ga=none/\hi=l.length∨∃k,ga=some (.int k (hi:Int))):
    (Instr.slice t (str l) fZ ga none).run P w= .ok (str ((l.take hi).drop lo)) w:=by
  have hs:(⟨⟨l⟩⟩:ByteArray).size=l.length:=rfl;have hb:(Instr.sliceBounds false (⟨⟨l⟩⟩:ByteArray).size (⟨⟨l⟩⟩:ByteArray).size fZ ga none).run P w= .ok (lo,hi,l.length) w:=by
    rcases gm with ⟨rfl,rfl⟩|⟨k,rfl⟩ <;>rcases lO with ⟨rfl,rfl⟩|⟨k2,rfl⟩
    · simp [Instr.sliceBounds,hs]
    · simp [Instr.sliceBounds,hs,Ft (P:=P) (k:=k2) (j:=(hi:Int)) (y:=l.length) Ab Ab]
    · simp [Instr.sliceBounds,hs,Ft (P:=P) (k:=k) (j:=(lo:Int)) (y:=l.length) Ab Ab]
    · have e1:((lo:Int)).toNat=lo:=by simp
      simp [Instr.sliceBounds,hs,Ft (P:=P) (k:=k2) (j:=(hi:Int)) (y:=l.length) Ab Ab,Ft (P:=P) (k:=k) (j:=(lo:Int)) (y:=hi) Ab Ab]
  have he:(⟨⟨l⟩⟩:ByteArray).extract lo hi=⟨⟨(l.take hi).drop lo⟩⟩:=by
    apply ByteArray.ext;simp [List.drop_take]
  unfold Instr.slice;simp [CL h,hb,he]
theorem QE{t:TypeId}{z:Value}{i:TypeInfo}{x:Operand}{l:List UInt8}{lo hi:Nat}{fX fY:Option Operand} [h1:Ty P t .string z i](ho:o.op= .slice t x fX fY none)(hx:ev env x=some (str l))
    (hl:fX=none/\lo=0∨∃y k,fX=some y/\ev env y=some (.int k (lo:Int))) (hh:fY=none/\hi=l.length∨∃y k,fY=some y/\ev env y=some (.int k (hi:Int))) (h2:lo≤hi) (h3:hi≤l.length):
    Dc P own n o env (str ((l.take hi).drop lo)):=
  De (by rw [ho];rfl) fun a w ha=>by
    have:=Qs (P:=P) (t:=t) (l:=l) h1.u h2 h3 (fX.map a.eval) (fY.map a.eval) w
      (by rcases hl with ⟨rfl,h⟩|⟨y,k,rfl,h⟩
          · exact .inl ⟨rfl,h⟩
          · exact .inr ⟨k,by simp [ha.eval h]⟩)
      (by rcases hh with ⟨rfl,h⟩|⟨y,k,rfl,h⟩
          · exact .inl ⟨rfl,h⟩
          · exact .inr ⟨k,by simp [ha.eval h]⟩)
    simp only [execOp,ho,ha.eval hx];simp only [Option.map_none,Instr.sliceAt];simp [CL h1.u,this]
theorem Fh{t:TypeId}{z:Value}{i:TypeInfo}{x y:Operand}{l:List UInt8}{k:IntKind}{j:Int} [h1:Ty P t .string z i](ho:o.op= .slice t x none (some y) none)(hx:ev env x=some (str l))(hy:ev env y=some (.int k j))
    (h0:0≤j) (h3:j≤l.length):Dc P own n o env (str (l.take j.toNat)):=
  QE (lo:=0) (hi:=j.toNat) ho hx (.inl ⟨rfl,rfl⟩) (.inr ⟨y,k,rfl,by rw [hy];simp [Int.toNat_of_nonneg h0]⟩) (Nat.zero_le _) Ab
theorem Wk{s t e:TypeId}{sz len cap:Nat}{x:Operand}{base:Option Addr}{l:List UInt8}{z z2:Value}{i i2:TypeInfo} [h1:Ns P s e sz] [h2:Ty P e (.int .u8) z i] [h3:Ty P t .string z2 i2]
    (ho:o.op= .convert s t x) (hx:ev env x=some (.slice base len cap)) (m:C0 own base (O0 l)) (hl:l.length=len):Dc P own n o env (str l):=
  ⟨by rw [ho];rfl,fun a w X ha hs=>⟨w,hs,.inl (by
    subst hl;simp only [execOp,ho,ha.eval hx];cases base with
    | none=>
      have hl:l= []:=by
        cases l with
        |nil=>rfl
        | cons b l=>
          obtain⟨a',e1, -⟩:=m.cell hs (k:=0) (v:= .int .u8 (b.toNat:Int)) (by simp [O0]);cases e1
      subst hl;simp [convert,CL h1.u,CL h2.u,CL h3.u,Conv.bytesToString]
      rfl
    | some ad=>
      have hc:∀j (hj:j<l.length),w.cell? (ad.add j)=some (.int .u8 (l[j].toNat:Int)):=fun j hj=>by
        obtain⟨a',e1,e2,e3⟩:=m.cell hs (Zw (List.getElem?_eq_getElem hj));cases e1;obtain⟨b,off,sp⟩:=ad;simp only at e2;subst e2
        rw [DX];exact e3
      have:=run_convert_bytes_back (P:=P) w s t e ad cap l h1.u h2.u h3.u hc;simp [this])⟩⟩
end
theorem ED{hs:List B6}{w:World}(s:Sat hs w)(o:Obj):Sat (Co w.heap.size o::hs) {w with heap:=w.heap.push o}:=by
  have hn:({w with heap:=w.heap.push o}:World).heap[w.heap.size]?=some o:=by simp
  have ho:wh w (.b w.heap.size)=none:=by simp [wh]
  refine⟨fun h hm=> ?_,List.pairwise_cons.2 ⟨fun h hm b o1 o2 h1 h2=> ?_,s.dj⟩⟩
  · rcases List.mem_cons.1 hm with rfl|hm
    · rw [Ee];exact MX.2 hn
    · exact(s.le h hm).trans (SH w o)
  · obtain⟨rfl, -⟩:=Rc h1;have:=s.le h hm _ o2 h2;rw [ho] at this;cases this
section
variable {P:Program} {r:Option Nat} {F:B6} {n:Nat} {Q:C4} {env:Env} {own rest hs:List B6} {ds:List Deferred} {all:Array Oper} {l:List Oper} {o:Oper}
theorem Qr{o2:Oper}{t e:TypeId}{sz bytes len:Nat}{ps:Array (Nat×Operand)}{qs:List (Nat×Value)}{zv:Value}{zc zs cs:List Value}{d d2:Nat}{ti:TypeInfo} [g:M4 P t e sz bytes] [h2:Ty P e (.int .u8) zv ti]
    (hd:o.dst=some d) (hn:Nat.blt d n=true) (hg:Cy all env o=some true) (ho:o.op= .buildSlice t len ps) (hp:Q6 env ps.toList=some qs)
    (P0:D9 zv=some zc) (Su:zc.length=sz) (hz:TI len zc=some zs) (hb:JI (fun i=>some (i*sz,sz)) zs qs=some cs) (Ol:Nat.ble (len*sz) 16777216=true)
    (SN:o2.dst=some d2) (Rq:Nat.blt d2 n=true) (iM:o2.guard=none) (gr:o2.op= .convert t t (.tmp d))
    (next:∀b,C6 false P r F n all l Q ((d2,.slice (some ⟨b,0,none⟩) len len)::(d,.slice (some ⟨b,0,none⟩) len len)::env) (Co b (.cells ⟨cs⟩ e (cs.length,cs.length+1))::own) ds):
    C6 false P r F n all (o::o2::l) Q env own ds:=by
  intro k hk;obtain⟨i,k',rfl,hi,Mm⟩:=VP hk;obtain⟨j,k2,rfl,hj,TB⟩:=VP Mm;obtain⟨bj, -,Ke⟩:=EY (P:=P) (n:=n) (env:=env) (o:=o) ho hp P0 Su hz hb Ol;intro a w ha MO hs;have hw1:=Ke a w ha;rw [wpOpsIn_cons];simp only [wpOpIn,hi,DH ha hg,if_true];refine⟨fun f _=>by simp,?_⟩;rw [Eo,semAt_plain bj,hw1,Oper.uponIn_value,hd];have Rs:=ha.put (.slice (some ⟨w.heap.size,0,none⟩) len len) (Nat.le_of_ble_eq_true hn);have hw2:Cy all ((d,.slice (some ⟨w.heap.size,0,none⟩) len len)::env) o2=some true:=by simp [Cy,iM]
  have hx:(a.put (some d) (.slice (some ⟨w.heap.size,0,none⟩) len len)).eval (.tmp d)= .slice (some ⟨w.heap.size,0,none⟩) len len:=Rs.eval (x:= .tmp d) (EE _ _ _);have E0:=Lib.run_convert_bytes_const (P:=P) w t e ⟨cs⟩ len len g.all.choose_spec.choose_spec.1 h2.u;have hpl2:Ek o2.op=true:=by rw [gr];rfl
  rw [wpOpsIn_cons];simp only [wpOpIn,hj,DH Rs hw2,if_true];refine⟨fun f _=>by simp,?_⟩;have he:(execOp (a.put (some d) (.slice (some ⟨w.heap.size,0,none⟩) len len)).eval o2).run P {w with heap:=w.heap.push (.cells ⟨cs⟩ e (0,0))}= .ok (.value (.slice (some ⟨w.heap.size,0,none⟩) len len)) (w.alloc (.cells ⟨cs⟩ e ((⟨cs⟩:Array Value).size,(⟨cs⟩:Array Value).size+1))):=by
    simp only [execOp,gr,hx];show(do pure (Next.value (<-convert t t (.slice (some ⟨w.heap.size,0,none⟩) len len))):Sem Next).run P (w.alloc (.cells ⟨cs⟩ e))=_;simp [E0]
  rw [Eo,semAt_plain hpl2,he,Oper.uponIn_value,SN];exact next w.heap.size k2 TB _ _ (Rs.put _ (Nat.le_of_ble_eq_true Rq)) MO (ED hs _).swap
end
end Go.SL
end
section
namespace Go.SL
def jh(P:Program)(fn:Func)(n:Nat)(Q:Ending->List B6->Prop)(u:FrameMode)(env:Env)(own:List B6)(ds:List Deferred):Prop:=
  ∀a w X,Has n env a->a.defers=ds->Sat (own++X) w->LeavesInM Fence.wide 0 P fn a.tmps (fun e w'=>∃own',Sat (own'++X) w'/\Q e own') ds u w
def dq(P:Program)(fn:Func)(n:Nat)(Q:Ending->List B6->Prop):C4
  | .normal,env,own,ds| .ret,env,own,ds=>jh P fn n Q .returning env own ds
  | .panic ch,env,own,ds=>jh P fn n Q (.panicking ch) env own ds
  |_,_,_,_=>False
theorem NB{P:Program}{f:FuncId}{fn:Func}{c:Code}{args:List Value}{hs:List B6}{Q:Ending->List B6->Prop}(hf:P.funcs[f]?=some fn)(hb:fn.body=some c)
    (hn:args.length≤fn.ntmps) (h:∀F,Db P none F fn.ntmps c (dq P fn fn.ntmps Q) (params args 0) hs []):T P f args hs Q:=by
  intro w X s;have hX:=NJ s;refine(callsIn_wide (n:=0)).1 (callsIn_of_wp_marks hf hb trivial ?_);have ha:Has fn.ntmps (params args 0) {tmps:=args.toArray++Array.replicate (fn.ntmps - args.toArray.size) undef,defers:= []}:=by
    refine⟨by simp;omega,fun i v hi=> ?_⟩;obtain⟨-,h2⟩:=Jt args 0 i v hi;simp only [Nat.sub_zero] at h2
    have Em:i<args.length:=(List.getElem?_eq_some_iff.1 h2).1;rw [Array.getElem?_append_left (by simpa using Em)];simpa using h2
  refine wpIn_mono (h (CB X) _ w ha rfl (L9 s)) fun e a w' ⟨he,env,own,h1,h2,h3⟩=> ?_
  have h2':Sat (own++X) w':=HU hX h2;cases e with
  |normal=>exact h3 a w' X h1 rfl h2'
  |ret=>exact h3 a w' X h1 rfl h2'
  |panic chain=>exact h3 a w' X h1 rfl h2'
  |exit _=>exact h3.elim
  |goto _=>exact h3.elim
  |outgrown=>exact absurd rfl he
def TD(P:Program)(f:FuncId)(args:List Value)(hs:List B6)(u:FrameMode)(R:Ending->FrameMode->List B6->Prop):Prop:=
  ∀w X,Sat (hs++X) w->CallsDIn Fence.wide 0 P f args.toArray u w fun e u' w'=>∃own,Sat (own++X) w'/\R e u' own
theorem Vl{P:Program}{fn:Func}{n:Nat}{Q:Ending->List B6->Prop}{u:FrameMode}{env:Env}{own hs rest:List B6}{g:FuncId}{dargs cap all:List Value}{R:Ending->FrameMode->List B6->Prop} [Enters P g] [t:C1 own hs rest]
    (hu:u≠ .run) (Et:dargs++cap=all) (lQ:TD P g all hs u R)
    (h:∀e u' own',R e u' own'->(∃v,e= .returned v)/\settle u'= .returning/\∃v CN,Hj P fn.results.toList (own'++rest) env n v/\(∀X w,Sat ((own'++rest)++X) w->Sat (CN++X) w)/\Q (.returned v) CN):
    jh P fn n Q u env own [{target:= .fn (.func g) cap.toArray,args:=dargs.toArray}]:=by
  intro a w X ha _ hs';refine⟨hu,.inr ⟨fun hx=>(by cases hx),.func g,cap.toArray,g,all.toArray,rfl,?_,fun _ _=>trivial,?_⟩⟩
  · have:(callFunc g (dargs.toArray++cap.toArray)).run P w= .ok (.enter g (dargs.toArray++cap.toArray)) w:=Enters.run _ _;simp only [invoke];rw [this,<-Et];simp
  · have hp:(own++X).Perm (hs++(rest++X)):=by rw [<-List.append_assoc];exact t.perm.append_right X
    obtain⟨h1,h2⟩:=lQ w (rest++X) (hs'.perm hp);refine⟨h1,fun c cs hc Fq=> ?_⟩;obtain⟨e,u',w',fr,⟨own',s2,hR⟩,hcomes,hk,da,hgo⟩:=h2 c cs hc Fq;refine⟨e,u',w',fr,?_,hcomes,hk,da,hgo⟩;obtain⟨⟨v0,rfl⟩,hset,v,CN,LA,Sw,hq⟩:=h e u' own' hR;show LeavesInM Fence.wide 0 P fn a.tmps _ [] (settle u') w';rw [hset];have s3:Sat ((own'++rest)++X) w':=by rw [List.append_assoc];exact s2
    exact⟨v,LA fn a w' X rfl ha s3,CN,Sw X w' s3,hq⟩
def dp(P:Program)(fn:Func)(n:Nat)(Q:Ending->List B6->Prop):C4
  | .normal,env,own,ds| .ret,env,own,ds=>ds= []/\∃v own',Hj P fn.results.toList own env n v/\(∀X w,Sat (own++X) w->Sat (own'++X) w)/\Q (.returned v) own'
  | .panic ch,_,own,ds=>ds= []/\Q (.panicked ch) own
  |_,_,_,_=>False
section
variable {P:Program} {f:FuncId} {fn:Func} {c2:Code} {args:List Value} {hs:List B6} {Q:Ending->List B6->Prop} {id:Nat} {ops:Array Oper} {o0 o1:Oper} {cl:Call} {d0 d1:Nat}
theorem Nz{v:Value}{u u':FrameMode}(iy:∀(Kf:Frame) cs,Kf.mode=u->(recoverD (Kf::cs)=some (v,{Kf with mode:=u'}::cs))∨(recoverD (Kf::cs)=none/\v= .nilIface/\u'=u))
    (hf:P.funcs[f]?=some fn) (hb:fn.body=some (.seq (.region id ops false) c2)) (hn:args.length≤fn.ntmps)
    (cY:ops.toList= [o0,o1]) (lW:o0.op= .call cl) (hc:cl.callee= .builtin .recover) (Kl:cl.args= #[]) (ai:o0.dst=some d0) (iN:o0.guard=none) (iD:o1.op= .assign (.tmp d0)) (fk:o1.dst=some d1) (l5:o1.guard=none)
    (dS:Nat.blt d0 fn.ntmps=true) (Zo:Nat.blt d1 fn.ntmps=true)
    (h:∀F,Db P none F fn.ntmps c2 (dp P fn fn.ntmps Q) ((d1,v)::(d0,v)::params args 0) hs []):
    TD P f args hs u fun e m own=>m=u'/\Q e own:=by
  intro w X s;have hX:=NJ s;refine callsDIn_of_wpSIn hf hb trivial fun Kf cs hu=> ?_
  have ha:Has fn.ntmps (params args 0) {tmps:=args.toArray++Array.replicate (fn.ntmps - args.toArray.size) undef,defers:= []}:=by
    refine⟨by simp;omega,fun i v hi=> ?_⟩;obtain⟨-,h2⟩:=Jt args 0 i v hi;simp only [Nat.sub_zero] at h2
    have Em:i<args.length:=(List.getElem?_eq_some_iff.1 h2).1;rw [Array.getElem?_append_left (by simpa using Em)];simpa using h2
  have hA:(({tmps:=args.toArray++Array.replicate (fn.ntmps - args.toArray.size) undef,defers:= []}:Act).put (some d0) v|>.put (some d1) v).defers= []:=rfl
  generalize ({tmps:=args.toArray++Array.replicate (fn.ntmps - args.toArray.size) undef,defers:= []}:Act)=A at ha hA ⊢
  have GH:ops.size=2:=by rw [<-Array.length_toList,cY];rfl
  have i0:ops[0]?=some o0:=by rw [<-Array.getElem?_toList,cY];rfl
  have i1:ops[1]?=some o1:=by rw [<-Array.getElem?_toList,cY];rfl
  have fin:∀cs':List Frame,cs'={Kf with mode:=u'}::cs->
      c2.wpSIn Fence.wide 0 P (bodyPostS P fn Kf cs fun e m w'=>∃own,Sat (own++X) w'/\m=u'/\Q e own) ((A.put (some d0) v).put (some d1) v) cs' w:=by
    rintro cs' rfl;have Rs:=(ha.put v (Nat.le_of_ble_eq_true dS)).put v (Nat.le_of_ble_eq_true Zo);refine wpSIn_of_wpIn rfl (wpIn_mono (h (CB X) _ w Rs hA (L9 s)) fun e a w' ⟨he,env,own,h1,h2,h3⟩=> ?_);have h2':Sat (own++X) w':=HU hX h2;have ret:(a.defers= []/\∃v own',Hj P fn.results.toList own env fn.ntmps v/\(∀X w,Sat (own++X) w->Sat (own'++X) w)/\Q (.returned v) own')->
        a.defers= []/\∃m,({Kf with mode:=u'}::cs:List Frame)={Kf with mode:=m}::cs/\∃r,(results fn a.tmps).run P w'= .ok r w'/\∃own,Sat (own++X) w'/\m=u'/\Q (.returned r) own:=by
      rintro⟨g1,r,own',g2,g3,g4⟩;exact⟨g1,u',rfl,r,g2 fn a w' X rfl h1 h2',own',g3 X w' h2',rfl,g4⟩
    cases e with
    |normal=>exact ret h3
    |ret=>exact ret h3
    |panic chain=>exact⟨h3.1,u',rfl,own,h2',rfl,h3.2⟩
    |exit _=>exact h3.elim
    |goto _=>exact h3.elim
    |outgrown=>exact absurd rfl he
  have hr0:(execOp A.eval o0).run P w= .ok .recover w:=by simp [execOp,lW,resolve,hc,invoke,builtin]
  have hw0:∀B:Act,Region.wanted o0 (yielded ops B.tmps)=true:=fun B=>by simp [Region.wanted,iN]
  have hw1:∀B:Act,Region.wanted o1 (yielded ops B.tmps)=true:=fun B=>by simp [Region.wanted,l5]
  refine wpSIn_seq (wpSIn_region ?_);rw [GH];show wpOpsSIn Fence.wide 0 P ops _ [0,1] A (Kf::cs) w;have iz:(execOp (A.put (some d0) v).eval o1).run P w= .ok (.value v) w:=by
    have:=(ha.put v (Nat.le_of_ble_eq_true dS)).eval (x:= .tmp d0) (EE _ _ _);simp [execOp,iD,this]
  have last:∀cs':List Frame,cs'={Kf with mode:=u'}::cs->wpOpsSIn Fence.wide 0 P ops (Exit.thenS (c2.wpSIn Fence.wide 0 P (bodyPostS P fn Kf cs fun e m w'=>∃own,Sat (own++X) w'/\m=u'/\Q e own)) (bodyPostS P fn Kf cs fun e m w'=>∃own,Sat (own++X) w'/\m=u'/\Q e own)) [1] (A.put (some d0) v) cs' w:=fun cs' L2=>by
    simp only [wpOpsSIn,i1];refine⟨fun f _=>trivial,?_⟩;rw [if_pos (hw1 _),iz];simp only [fk];exact fin cs' L2
  rw [wpOpsSIn];simp only [i0];refine⟨fun f _=>trivial,?_⟩;rw [if_pos (hw0 _),hr0];rcases iy Kf cs hu with h1|⟨h1,rfl,rfl⟩
  · simp only [h1,ai];exact last _ rfl
  · simp only [h1,ai];exact last _ (by rw [<-hu])
end
end Go.SL
end
section
namespace Go.SL
section
variable {P:Program} {r:Option Nat} {F:B6} {n:Nat} {Q:C4} {env:Env} {own rest hs:List B6} {ds:List Deferred} {all:Array Oper} {l:List Oper} {o:Oper}
theorem XG{x:Operand}{t:TypeId}{v:Value}(hg:Cy all env o=some true)(ho:o.op= .panic x)(hx:ev env x=some (.iface t v))
    (h:Q (.panic [{v:= .iface t v,recovered:=false}]) env own ds):C6 false P r F n all (o::l) Q env own ds:=fun k hk=>by
  obtain⟨i,k',rfl,hi,Mm⟩:=VP hk;intro a w ha MO hs;rw [wpOpsIn_cons];simp only [wpOpIn,hi,DH ha hg,if_true];refine⟨fun f _=>by simp,?_⟩;have hp:Ek o.op=true:=by rw [ho];rfl
  have hr:(execOp a.eval o).run P w= .halt (.panic (.iface t v)) w:=by
    simp [execOp,ho,ha.eval hx,Instr.panic,goPanic,Sem.run,Result.andThen]
  rw [Eo,semAt_plain hp,hr];exact GR.mk Ak ha MO hs h
theorem RD{c:Call}{x:Operand}{fv:Fn}{first captured:Array Value}{vs:List Value}(hd:o.dst=none)(hg:Cy all env o=some true)(ho:o.op= .defer c)(hc:c.callee= .value x)(hx:ev env x=some (.func fv first captured))
    (IV:MU env c.args.toList=some vs)
    (h:C6 false P none F n all l Q env own ({target:= .fn fv captured,args:=first++vs.toArray}::ds)):C6 false P none F n all (o::l) Q env own ds:=fun k hk=>by
  obtain⟨i,k',rfl,hi,Mm⟩:=VP hk;intro a w ha MO hs;rw [wpOpsIn_cons];simp only [wpOpIn,hi,DH ha hg,if_true];refine⟨fun f _=>by simp,?_⟩;have h1:c.args.map a.eval=vs.toArray:=Array.ext' (by simpa using JC ha IV);have hr:(execOp a.eval o).run P w= .ok (.defer {target:= .fn fv captured,args:=first++vs.toArray}) w:=by
    simp [execOp,ho,resolve,hc,ha.eval hx,h1,Deferred.ofValue]
  rw [Eo];rw [Oper.semAt_none,hr,Oper.uponIn_defer,hd];refine h k' Mm _ w ⟨ha.size,ha.get⟩ ?_ hs;simp [Act.put,MO]
end
section
variable {P:Program} {own:List B6} {n:Nat} {env:Env} {o:Oper}
def Nj:TypeDesc->Bool
  | .interface _=>false
  |_=>true
theorem EN{t:TypeId}{d:TypeDesc}{z v:Value}{i:TypeInfo}{x:Operand} [ty:Ty P t d z i](ho:o.op= .makeInterface t x)(hx:ev env x=some v)(hd:Nj d=true):Dc P own n o env (.iface t v):=
  De (by rw [ho];rfl) fun a w ha=>by
    cases d <;>simp_all [execOp,ho,ha.eval hx,Instr.makeInterface,CL ty.u,Nj]
theorem O9{t u:TypeId}{d:TypeDesc}{z v:Value}{i:TypeInfo}{x:Operand} [ty:Ty P t d z i](ho:o.op= .typeAssert x u t true)(hx:ev env x=some (.iface t v))(hd:Nj d=true):Dc P own n o env (.tuple ⟨[v,.bool true]⟩):=
  De (by rw [ho];rfl) fun a w ha=>by
    cases d <;>simp_all [execOp,ho,ha.eval hx,Instr.typeAssert,CL ty.u,Nj]
end
end Go.SL
end
section
namespace Go.SL
section
variable {P:Program} {own:List B6} {n:Nat} {env:Env} {o:Oper}
theorem Ig{t:TypeId}{ms:Array (String×TypeId)}(h:P.underlying t=some (.interface ms))(x:Value)(b:Bool)(hx:x= .nilIface/\b=true∨(∃T v,x= .iface T v)/\b=false)(w:World):(Op.equal t x .nilIface).run P w= .ok b w:=by
  have h:(Op.equalIn 10000 t x .nilIface).run P w= .ok b w:=by
    rw [show(10000:Nat)=9999+1 from rfl,Op.equalIn];rcases hx with ⟨rfl,rfl⟩|⟨⟨T,v,rfl⟩,rfl⟩ <;>simp [CL h]
  exact h
theorem PL{t u:TypeId}{ms:Array (String×TypeId)}{z:Value}{i:TypeInfo}{x:Operand} [ty:Ty P t (.interface ms) z i](ho:o.op= .binOp .eql t x (.const .nilIface) u)(hx:ev env x=some .nilIface):Dc P own n o env (.bool true):=
  De (by rw [ho];rfl) fun a w ha=>by
    have hg:(eqGuard .eql t x (.const .nilIface) .nilIface .nilIface).run P w= .ok () w:=by simp [eqGuard]
    have hy:a.eval (.const .nilIface)= .nilIface:=rfl;simp only [execOp,ho,ha.eval hx,hy];simp [hg,binOp,Ig ty.u .nilIface true (.inl ⟨rfl,rfl⟩)]
theorem DT{t u:TypeId}{ms:Array (String×TypeId)}{z:Value}{i:TypeInfo}{x:Operand} [ty:Ty P t (.interface ms) z i](ho:o.op= .binOp .neq t x (.const .nilIface) u)(hx:ev env x=some .nilIface):Dc P own n o env (.bool false):=
  De (by rw [ho];rfl) fun a w ha=>by
    have hg:(eqGuard .neq t x (.const .nilIface) .nilIface .nilIface).run P w= .ok () w:=by simp [eqGuard]
    have hy:a.eval (.const .nilIface)= .nilIface:=rfl;simp only [execOp,ho,ha.eval hx,hy];simp [hg,binOp,Ig ty.u .nilIface true (.inl ⟨rfl,rfl⟩)]
theorem D7{t u T:TypeId}{v:Value}{ms:Array (String×TypeId)}{z:Value}{i:TypeInfo}{x:Operand} [ty:Ty P t (.interface ms) z i](ho:o.op= .binOp .neq t x (.const .nilIface) u)(hx:ev env x=some (.iface T v)):Dc P own n o env (.bool true):=
  De (by rw [ho];rfl) fun a w ha=>by
    have hg:(eqGuard .neq t x (.const .nilIface) (.iface T v) .nilIface).run P w= .ok () w:=by simp [eqGuard]
    have hy:a.eval (.const .nilIface)= .nilIface:=rfl;simp only [execOp,ho,ha.eval hx,hy];simp [hg,binOp,Ig ty.u (.iface T v) false (.inr ⟨⟨T,v,rfl⟩,rfl⟩)]
theorem PJ{t:TypeId}{x:Operand}{k:Nat}{base:Option Addr}{cs:List Value}{v:Value} [ty:Y6 P t 1](ho:o.op= .load t x)(hx:ev env x=some (Q7 base k))(m:C0 own base cs)(hv:cs[k]?=some v):Dc P own n o env (.agg ⟨[v]⟩):=
  HI (vs:= [v]) ho hx (Nat.succ_pos 0) rfl fun j w hj=>by
    match j,hj with
    |0,hj=>simp at hj;subst hj;exact hv
end
inductive LB (h:B6) (base:Option Addr) (len cap:Nat) (T:TypeId) (sz:Nat) (cs:List Value):Prop
  |os (s:OS h base len cap T sz cs)
  |full (s:Sl h base cs) (hl:cs.length=len*sz) (h1:cap=len) (h2:0<len)
theorem LB.sl{h:B6}{base:Option Addr}{len cap:Nat}{T:TypeId}{sz:Nat}{cs:List Value}(s:LB h base len cap T sz cs):Sl h base cs:=by
  cases s with
  |os s=>exact s.sl
  |full s=>exact s
theorem LB.hlen{h:B6}{base:Option Addr}{len cap:Nat}{T:TypeId}{sz:Nat}{cs:List Value}(s:LB h base len cap T sz cs):cs.length=len*sz:=by
  cases s with
  |os s=>exact s.hlen
  |full _ h=>exact h
theorem We{P:Program}{t ty e:TypeId}{i:TypeInfo}{z:Value}{h:B6}{base:Option Addr}{len cap m c:Nat}{cs news:List Value}{a:Addr}{hs:List B6}{w:World}
    (ht:P.underlying t=some (.slice e)) (hi:P.info? e=some i) (hz:i.zero=some z) (aY:z.cells.size=i.size)
    (lb:LB h base len cap e i.size cs) (s:Sat (h::hs) w) (hm:0<m) (hp:0<i.size) (hl:news.length=m*i.size) (hn:∀j v,news[j]?=some v->w.cell? (a.add j)=some v) (h1:∀v∈news,v.oneCell'=true)
    (Fq:(len+m)*i.bytes≤35184372088832) (hlen:len+m≤35184372088832):
    ∃h' DN E4 w',(Builtin.append_ #[t,t] ty #[.slice base len cap,.slice (some a) m c]).run P w= .ok (.slice DN (len+m) E4) w'/\OS h' DN (len+m) E4 e i.size (cs++news)/\Sat (h'::hs) w':=by
  cases lb with
  |os os=>exact NK ht hi hz aY os s hm hl hn h1 Ab Ab
  | full sl Kl aj Gr=>
    subst aj;have hp0:0<cs.length:=by rw [Kl];exact Nat.mul_pos Gr hp
    have mi:C0 [h] base cs:=⟨h,by simp,sl⟩;obtain⟨ad,e1,e2, -⟩:=mi.cell (X:=hs) s (List.getElem?_eq_getElem hp0);obtain⟨bb,off,sp⟩:=ad;simp only at e2
    subst e2;subst e1;have hold:∀j v,cs[j]?=some v->w.cell? ((⟨bb,off,none⟩:Addr).add j)=some v:=fun j v hj=>by
      obtain⟨a',e3,e4,e5⟩:=mi.cell (X:=hs) s hj;cases e3;rw [DX];exact e5
    have hz':z.cells.size=i.size:=aY;have FZ:(cs++news).length=(cap+m)*i.size:=by rw [List.length_append,Kl,hl,Nat.add_mul]
    have P0:∀k,(Builtin.zeroCells z.cells k).size=k*i.size:=fun k=>by simp [Builtin.zeroCells,hz']
    have hcapn:∀need old,need≤grownCap w need old e:=fun need old=>by simp [grownCap,Question.cut]
    have Q0:=nextslicecap_le (need:=cap+m) (old:=cap) Ab;have E0:=run_append_grow (P:=P) w t ty e i z ht hi hz ⟨bb,off,none⟩ cap cap cs Kl hold a m c news hl hn Ab Ab (by
      have:Builtin.nextslicecap (cap+m) cap*i.bytes≤2*(cap+m)*i.bytes:=Nat.mul_le_mul_right _ Q0;rw [Nat.mul_assoc] at this
      omega)
    have s2:Sat hs w.drew:=s.tail.heap rfl rfl rfl;refine⟨_,_,_,_,E0,⟨FZ,hcapn _ _,.inr ⟨w.heap.size,0,_,rfl,rfl,?_,fun k v hk=> ?_⟩⟩,D4 s2 _ (fun _=>by simp [Ou])⟩
    · have hc:=hcapn (cap+m) cap;have:(cap+m)*i.size≤grownCap w (cap+m) cap e*i.size:=Nat.mul_le_mul_right _ hc;rw [Array.size_append,P0,Array.size_append,List.size_toArray,List.size_toArray,Kl,hl,Nat.sub_mul,<-Nat.add_mul];omega
    · have Em:k<(cs++news).length:=(List.getElem?_eq_some_iff.1 hk).1;rw [Nat.zero_add,Array.getElem?_append_left (by simpa using Em)];rw [<-hk];simp
section
variable {P:Program} {r:Option Nat} {F:B6} {n:Nat} {Q:C4} {env:Env} {own rest hs:List B6} {ds:List Deferred} {all:Array Oper} {l:List Oper} {o:Oper}
end
end Go.SL
end
section
namespace Go.SL
section
variable {P:Program} {own:List B6} {n:Nat} {env:Env} {o:Oper}
theorem Sy{t e:TypeId}{sz bytes:Nat}{c:Call}{x y:Operand}{h hn:B6}{base:Option Addr}{len cap m mc:Nat}{cs news:List Value}{a:Addr} [g:M4 P t e sz bytes]
    (ho:o.op= .call c) (hc:c.callee= .builtin .append) (Il:c.args= #[x,y]) (E5:c.argTypes= #[t,t])
    (hx:ev env x=some (.slice base len cap)) (hy:ev env y=some (.slice (some a) m mc)) (mm:Sl hn (some a) news) (os:LB h base len cap e sz cs)
    (hm:0<m) (FZ:news.length=m*sz) (Gr:0<sz) (h1:news.all (·.oneCell')=true) (Fq:(len+m)*bytes≤35184372088832) (hlen:len+m≤35184372088832):
    DS P [h,hn] n o env fun v own'=>∃h' DN E4,v= .slice DN (len+m) E4/\own'= [h',hn]/\OS h' DN (len+m) E4 e sz (cs++news):=by
  refine⟨by rw [ho];rfl,fun A w X hA hs=> ?_⟩;obtain⟨i,z,g1,g2,g3,g4,g5,g6⟩:=g.all;subst g5;subst g6;have s2:Sat (h::hn::X) w:=by simpa using hs
  have Ke:∀j v,news[j]?=some v->w.cell? (a.add j)=some v:=fun j v hj=>by
    have mi:C0 [h,hn] (some a) news:=⟨hn,by simp,mm⟩;obtain⟨a',e1,e2,e3⟩:=mi.cell hs hj;cases e1;obtain⟨b,off,sp⟩:=a;simp only at e2
    subst e2;rw [DX];exact e3
  obtain⟨h',DN,E4,w',E0,HT,s3⟩:=We (P:=P) (ty:=o.type) (c:=mc) g1 g2 g3 g4 os s2 hm Gr FZ Ke (by simpa using h1) Fq hlen;refine⟨w',.inl ⟨.slice DN (len+m) E4,[h',hn],?_,by simpa using s3,h',DN,E4,rfl,rfl,HT⟩⟩;simp [execOp,ho,resolve,hc,Il,E5,invoke,builtin,hA.eval hx,hA.eval hy,E0]
end
section
variable {P:Program} {r:Option Nat} {F:B6} {n:Nat} {CR:List B6} {Q:C4} {env:Env} {own rest hs:List B6} {ds:List Deferred} {all:Array Oper} {s:List Sg} {o:Oper} {an:An} {ml:ML}
theorem Tk{m:Nat}{t e:TypeId}{sz bytes:Nat}{cl:Call}{x y:Operand}{hh hn:B6}{base:Option Addr}{len cap mm mc d:Nat}{cs news:List Value}{a:Addr} [g:M4 P t e sz bytes]
    (hi:all[m]?=some o) (hd:o.dst=some d) (hg:Cy all env o=some true)
    (ho:o.op= .call cl) (hc:cl.callee= .builtin .append) (Il:cl.args= #[x,y]) (E5:cl.argTypes= #[t,t])
    (hx:ev env x=some (.slice base len cap)) (hy:ev env y=some (.slice (some a) mm mc)) [sa:aO own (some a) hn news] (os:LB hh base len cap e sz cs) [tk:C1 own [hh,hn] rest] {Gj:List B6} [tp:C1 rest CR Gj]
    (hm:0<mm) (FZ:news.length=mm*sz) (Gr:0<sz) (h1:news.all (·.oneCell')=true) (Fq:(len+mm)*bytes≤35184372088832) (hlen:len+mm≤35184372088832)
    (h:∀h' DN E4,OS h' DN (len+mm) E4 e sz (cs++news)->Du P r F n all CR Q ds s ((d,.slice DN (len+mm) E4)::env) (h'::hn::rest) an ml):Du P r F n all CR Q ds (.h true m::s) env own an ml:=
  OE hi hd hg (Sy ho hc Il E5 hx hy sa.sl os hm FZ Gr h1 Fq hlen) Mn (fun _=> .inl ⟨Gj,tp.perm⟩) fun v own' hR=>by
    obtain⟨h',b',c',rfl,rfl,HT⟩:=hR;exact⟨_,rfl,h h' b' c' HT⟩
end
end Go.SL
end
section
namespace Go.SL
section
variable {P:Program} {r:Option Nat} {F:B6} {n:Nat} {Q:C4} {env:Env} {own rest hs CR:List B6} {ds:List Deferred} {all:Array Oper} {l:List Oper} {o:Oper} {s:List Sg} {an:An} {ml:ML}
end
end Go.SL
end
section
namespace Go.SL
section
variable (P:Program) (F:B6) (n:Nat) (all:Array Oper) (own:List B6) (nw:List Nat) (V:(Nat->Nat)->Nat->Value) (OB:(Nat->Nat)->Nat->Obj)
end
section
variable {P:Program} {F:B6} {n:Nat} {all:Array Oper} {own:List B6} {nw:List Nat} {V:(Nat->Nat)->Nat->Value} {OB:(Nat->Nat)->Nat->Obj} {bf:Nat->Nat} {Q:Env->Prop}
end
section
variable {P:Program} {F:B6} {n:Nat} {all:Array Oper} {own:List B6} {nw:List Nat} {V:(Nat->Nat)->Nat->Value} {OB:(Nat->Nat)->Nat->Obj} {bf:Nat->Nat} {Q:Env->Prop} {env:Env} {l:List Nat} {o:Oper}
end
end Go.SL
end
section
namespace Go.SL
open Go.ChangeMaps (setBlock)
section
variable {P:Program} {own:List B6} {n:Nat} {env:Env} {o:Oper}
end
section
variable {P:Program} {r:Option Nat} {F:B6} {n:Nat} {Q:C4} {env:Env} {own rest hs CR:List B6} {ds:List Deferred} {all:Array Oper} {l:List Oper} {o:Oper}
end
end Go.SL
end
section
namespace Go.SL
section
variable {P:Program} {F:B6} {n:Nat} {Q:C4} {env:Env} {own rest hsI hk:List B6} {ds:List Deferred} {assign body:Code}
end
end Go.SL
end
section
namespace Go.SL
section
variable {α:Type} (P:Program) (F:B6) (n:Nat) (all:Array Oper) (own:List B6) (hv:List Nat) (V:(Nat->α)->Nat->Value) (B:Nat->List B6) (D:(Nat->α)->Nat->List B6)
end
section
variable {α:Type} {P:Program} {F:B6} {n:Nat} {all:Array Oper} {own:List B6} {hv:List Nat} {V:(Nat->α)->Nat->Value} {B:Nat->List B6} {D:(Nat->α)->Nat->List B6} {bf:Nat->α} {Q:Env->Prop}
end
section
variable {α:Type} {P:Program} {F:B6} {n:Nat} {all:Array Oper} {own:List B6} {hv:List Nat} {V:(Nat->α)->Nat->Value} {B:Nat->List B6} {D:(Nat->α)->Nat->List B6} {bf:Nat->α} {Q:Env->Prop} {env:Env} {l:List Nat} {o:Oper}
end
end Go.SL
end
section
namespace Go.SL
section
variable {P:Program} {own:List B6} {n:Nat} {env:Env} {o:Oper}
theorem Gk{t e:TypeId}{sz:Nat}{x y u:Operand}{base:Option Addr}{len cap:Nat}{k k2:IntKind}{j i:Int} [h1:Ns P t e sz](ho:o.op= .slice t x (some y) (some u) none)(hx:ev env x=some (.slice base len cap))(hy:ev env y=some (.int k j))(hu:ev env u=some (.int k2 i))
    (h0:0≤j) (hj:j≤i) (hi:i≤cap):Dc P own n o env (.slice (sub base j.toNat cap sz) (i.toNat - j.toNat) (cap - j.toNat)):=
  De (by rw [ho];rfl) fun a w ha=>by
    have hj':j≤(i.toNat:Int):=by omega
    have hi':(0:Int)≤i:=by omega
    simp [execOp,ho,ha.eval hx,ha.eval hy,ha.eval hu,Instr.sliceAt,Instr.slice,Instr.sliceBounds,CL h1.u,h1.s,Ft h0 hj',Ft hi' hi,sub]
end
end Go.SL
end
section
namespace Go.SL
theorem WG{P:Program}{n:Nat}{o:Oper}{env:Env}{t t2 e:TypeId}{c:Call}{x y:Operand}{base:Option Addr}{len cap c2 sz:Nat}{own:List B6} [g:Ns P t e sz]
    (ho:o.op= .call c) (hc:c.callee= .builtin .copy) (Il:c.args= #[x,y]) (E5:c.argTypes= #[t,t2]) (hx:ev env x=some (.slice base len cap)) (hy:ev env y=some (.slice none 0 c2)):
    DS P own n o env fun v own'=>v= .int .i64 0/\own'=own:=by
  refine⟨by rw [ho];rfl,fun a w X ha hs=> ?_⟩;have E0:(execOp a.eval o).run P w= .ok (.value (.int .i64 0)) w:=by
    simp only [execOp,ho];cases base <;>simp [resolve,hc,Il,E5,invoke,builtin,Builtin.copy_,ha.eval hx,ha.eval hy,CL g.u,Builtin.lenOf,goInt,g.s,Builtin.firstCells,storeCells]
  exact⟨w,.inl ⟨_,own,E0,hs,rfl,rfl⟩⟩
section
variable {P:Program} {r:Option Nat} {F:B6} {n:Nat} {Q:C4} {env:Env} {own rest hs CR:List B6} {ds:List Deferred} {all:Array Oper} {l:List Oper} {o:Oper} {s:List Sg} {an:An}
theorem XI{d:Nat}{t t2 e:TypeId}{c:Call}{x y:Operand}{base:Option Addr}{len cap c2 sz:Nat} [g:Ns P t e sz] [tk:C1 own [] rest]
    (hd:o.dst=some d) (ag:Nat.blt d n=true) (hg:Cy all env o=some true) (ho:o.op= .call c) (hc:c.callee= .builtin .copy) (Il:c.args= #[x,y]) (E5:c.argTypes= #[t,t2]) (hx:ev env x=some (.slice base len cap)) (hy:ev env y=some (.slice none 0 c2))
    (next:C6 false P r F n all l Q ((d,.int .i64 0)::env) rest ds):C6 false P r F n all (o::l) Q env own ds:=
  KB hd ag hg (WG (own:= []) ho hc Il E5 hx hy) fun v' own' hR=>by
    obtain⟨rfl,rfl⟩:=hR;exact⟨_,rfl,next⟩
end
end Go.SL
end
section
namespace Go.SL
theorem join_assoc(h k l:B6):join (join h k) l=join h (join k l):=by
  funext b
  simp only [join];cases h b <;>rfl
theorem Ly:∀(a b:List B6),CB (a++b)=join (CB a) (CB b)
  | [],b=>by funext x;rfl
  | h::a,b=>by
    show join h (CB (a++b))=join (join h (CB a)) (CB b);rw [Ly a b,join_assoc]
theorem Uo(own Ws:List B6):CB (own++Ws)=CB (CB own::Ws):=Ly own Ws
theorem QD{own Ws:List B6}(h1:own.Pairwise DM)(h:(CB own::Ws).Pairwise DM):(own++Ws).Pairwise DM:=by
  obtain⟨h2,h3⟩:=List.pairwise_cons.1 h;refine List.pairwise_append.2 ⟨h1,h3,fun k hk w hw=> ?_⟩;exact fun b o o' x y=>h2 w hw b o o' (DV h1 hk b o x) y
section
variable {P:Program} {F:B6} {n:Nat} {Q:C4} {env:Env} {own rest hsI:List B6} {ds:List Deferred} {assign body:Code}
end
end Go.SL
end
section
namespace Go.SL
def bO{S:Type}(P:Program)(f:FuncId)(first captured:List Value)(hs:List B6)(s0:S)(view:S->B6->Prop)(nx:S->List Value->List B6->Prop)(tr mv:S->S->Prop)(dn:S->Prop):Prop:=
  ∀ (L:Nat) (J:S->B6->Prop) (Jd Jx:B6->Prop),
    (∀s H,J s H->view s H)->(∀s s' H,mv s s'->J s H->J s' H)->(∀s H,dn s->J s H->Jd H)->
    (∀s H x Ws,J s H->nx s x Ws->(H::Ws).Pairwise DM->YT P L x (CB (H::Ws)) fun v H'=>(v= .bool true/\∃s',tr s s'/\J s' H')∨(v= .bool false/\Jx H'))->
    ∀H,J s0 H->T P f (first++ [.func (.yield L) #[] #[]]++captured) (H::hs) fun e own'=>e= .returned (.tuple #[])/\∃H',own'=H'::hs/\(Jd H'∨Jx H')
theorem Og{P:Program}{n:Nat}{env:Env}{o:Oper}{c:Call}{x:Operand}{L:Nat}{vs:List Value}{H:B6}{Ws:List B6}{R:Value->B6->Prop}
    (ho:o.op= .call c) (hc:c.callee= .value x) (hx:ev env x=some (.func (.yield L) #[] #[])) (IV:MU env c.args.toList=some vs)
    (h:(H::Ws).Pairwise DM->YT P L vs (CB (H::Ws)) R):
    DS P (H::Ws) n o env fun v own'=>∃H2,own'= [H2]/\R v H2:=by
  refine⟨by rw [ho];rfl,fun a w X ha hs=> ?_⟩;have hd:(H::Ws).Pairwise DM:=(List.pairwise_append.1 hs.dj).1;obtain⟨f,tmps,assign,body,h1,h2⟩:=h hd w X hs.CB;refine⟨w,.inr (.inr (.inr ⟨L,f,tmps,assign,body,(Kj ha ho hc hx IV w).trans h1,fun r=>(h2 r).mono ?_⟩))⟩;rintro e K9 ⟨v,H',he,s,hR⟩;exact⟨v,[H'],he,s,H',rfl,hR⟩
section
variable {P:Program} {F:B6} {n:Nat} {Q:C4} {env:Env} {own rest hsI:List B6} {ds:List Deferred} {assign body:Code}
theorem TT{S:Type}{g:Operand}{ps:Array Tmp}{f:FuncId}{first captured:Array Value}{s0:S}{view:S->B6->Prop}{nx:S->List Value->List B6->Prop}{tr mv:S->S->Prop}{dn:S->Prop} [he:Enters P f] [t:C1 own hsI rest]
    (J:S->List B6->Prop) (Jd:List B6->Prop) (Jx:Code->List B6->Prop)
    (hg:ev env g=some (.func (.func f) first captured)) (hI:bO P f first.toList captured.toList hsI s0 view nx tr mv dn) (Vs:∀s H H',hle H H'->view s H->view s H')
    (Zk:ps.toList.all (fun p=>Nat.blt p n)=true) (h0:J s0 rest)
    (eV:∀s own1,J s own1->own1.Pairwise DM->view s (CB own1)) (WI:∀s s' own1,mv s s'->J s own1->J s' own1) (gB:∀s own1,dn s->J s own1->Jd own1)
    (KN:∀L s own1 x Ws,J s own1->nx s x Ws->x.length=ps.size/\∀F,∃JE,To ps.toList x env=some JE/\Db P (some L) F n assign (Qj (fun ID CN ax=>∀F2,Db P (some L) F2 n body (KY (fun o=>∃s',tr s s'/\J s' o) Jx) ID CN ax) fun _ _ _ _=>False) JE (own1++Ws) [])
    (Jz:∀D own1,Jd own1->∃CN,Ht own1 hsI=some CN/\Q .normal env (Co D (.deferred (some []))::CN) (mark D::ds))
    (Jv:∀D c own1,Jx c own1->∃CN,Ht own1 hsI=some CN/\Db P none F n c Q env (Co D (.deferred (some []))::CN) (mark D::ds)):
    Db P none F n (.rangeFunc g ps assign body) Q env own ds:=by
  have Jz:∀D own1,Jd own1->Q .normal env (Co D (.deferred (some []))::(own1++hsI)) (mark D::ds):=fun D own1 hJ=>by
    obtain⟨CN,e,h⟩:=Jz D own1 hJ;rw [Fk e] at h;exact h
  have Jv:∀D c own1,Jx c own1->Db P none F n c Q env (Co D (.deferred (some []))::(own1++hsI)) (mark D::ds):=fun D c own1 hJ=>by
    obtain⟨CN,e,h⟩:=Jv D c own1 hJ;rw [Fk e] at h;exact h
  intro a w ha hd hs;refine wpIn_rangeFunc fun fn _=> ?_
  let L:=w.heap.size+1
  let rc:Loop:={state:= .ready,pending:=none,fn,tmps:=a.tmps,params:=ps,assign,body,defers:=w.heap.size}
  let xv:Value:= .func (.yield L) #[] #[]
  let w1:=(w.alloc (.deferred (some []))).alloc (.loop rc)
  have LA:(resolve a.eval (rangeCall g L) 0).run P w1= .ok {target:= .fn (.func f) captured,args:=first++ #[xv]} w1:=by
    simp only [resolve,ha.eval hg,Deferred.ofValue,Sem.run_pure];simp [Act.eval,xv]
  have hinv:(invoke (.fn (.func f) captured) (first++ #[xv])).run P w1= .ok (.enter f (first++ #[xv]++captured)) w1:=he.run _ _;refine⟨L,[SL.mark w.heap.size],w1,{target:= .fn (.func f) captured,args:=first++ #[xv]},w1,f,first++ #[xv]++captured,w1,run_enterLoop_outer fn a.tmps ps assign body,LA,fun _ _=>by simp,hinv,fun hx=>by simp at hx,E8 _ ?_⟩;have e:first++ #[xv]++captured=(first.toList++ [xv]++captured.toList).toArray:=by apply Array.ext';simp
  rw [e];have sD:Sat (Co w.heap.size (.deferred (some []))::F::own) (w.alloc (.deferred (some []))):=D4 hs _ (fun _=>rfl);have sL:Sat (Co L (.loop rc)::Co w.heap.size (.deferred (some []))::F::own) w1:=by
    have:=D4 sD (.loop rc) (fun _=>rfl);rw [World.size_alloc] at this;exact this
  have sA:Sat ((Co L (.loop rc)::rest)++(hsI++ [Co w.heap.size (.deferred (some [])),F])) w1:=by
    refine sL.perm ((?_:List.Perm _ _).cons _);refine((t.perm.cons F).cons _).trans ?_;have p1:(Co w.heap.size (.deferred (some []))::F::(hsI++rest)).Perm ((hsI++rest)++ [Co w.heap.size (.deferred (some [])),F]):=List.perm_append_comm (l₁:= [Co w.heap.size (.deferred (some [])),F]) (l₂:=hsI++rest);refine p1.trans ?_;have p2:(hsI++rest).Perm (rest++hsI):=List.perm_append_comm;simpa [List.append_assoc] using p2.append_right [Co w.heap.size (.deferred (some [])),F]
  let lr:Loop->B6:=fun r=>Co L (.loop r)
  let JJ:S->B6->Prop:=fun s H=>∃own1,(lr rc::own1).Pairwise DM/\H=CB (lr rc::own1)/\J s own1
  let JD:B6->Prop:=fun H=>∃own1,(lr rc::own1).Pairwise DM/\H=CB (lr rc::own1)/\Jd own1
  let JX:B6->Prop:=fun H=>∃c own1,(lr {rc with state:= .done,pending:=some c}::own1).Pairwise DM/\H=CB (lr {rc with state:= .done,pending:=some c}::own1)/\Jx c own1
  have hpn:∀p∈ps.toList,p<n:=fun p hp=>Nat.le_of_ble_eq_true (List.all_eq_true.1 Zk p hp)
  have hT:=hI L JJ JD JX (fun s H hJ=>by
      obtain⟨own1,IW,rfl,hJ⟩:=hJ;exact Vs _ _ _ (Oj IW) (eV s own1 hJ (List.pairwise_cons.1 IW).2))
    (fun s s' H hm hJ=>by
      obtain⟨own1,IW,rfl,hJ⟩:=hJ;exact⟨own1,IW,rfl,WI s s' own1 hm hJ⟩)
    (fun s H hd hJ=>by
      obtain⟨own1,IW,rfl,hJ⟩:=hJ;exact⟨own1,IW,rfl,gB s own1 hd hJ⟩)
    (fun s H x Ws hJ hx l9=>by
      obtain⟨own1,IW,rfl,hJ⟩:=hJ;obtain⟨h2,h3⟩:=KN L s own1 x Ws hJ hx;have hdA:(lr rc::(own1++Ws)).Pairwise DM:=by
        have:=QD IW l9;simpa using this
      have e0:CB (CB (lr rc::own1)::Ws)=CB (lr rc::(own1++Ws)):=by
        rw [<-Uo];rfl
      rw [e0];have hy:=Nu (rc:=rc) (Gz ha) hpn h2 rfl hdA fun F=>by
        obtain⟨JE,e,h⟩:=h3 F;rw [OJ e] at h;exact h
      intro w X s;obtain⟨f2,tm,as,bd,g1,g2⟩:=hy w X s;refine⟨f2,tm,as,bd,g1,fun r=>(g2 r).mono ?_⟩;rintro e K9 ⟨v,H',he2,s2,hR⟩;refine⟨v,H',he2,s2,?_⟩;rcases hR with ⟨rfl,CN,SN,rfl,s',htr,hJ'⟩|⟨rfl,c,CN,SN,rfl,hJ'⟩
      · exact .inl ⟨rfl,s',htr,CN,SN,rfl,hJ'⟩
      · exact .inr ⟨rfl,c,CN,SN,rfl,hJ'⟩) _ ⟨rest,(sA.sub (List.sublist_append_left _ _)).dj,rfl,h0⟩
  refine(hT w1 [Co w.heap.size (.deferred (some [])),F] (by simpa using sA.CB)).mono ?_;rintro e w3 ⟨own',s3,rfl,H',rfl,hJ⟩;have done:∀(r3:Loop) own1,(lr r3::own1).Pairwise DM->H'=CB (lr r3::own1)->r3.state≠ .busy->
      ∃w4,(Instr.endLoop L).run P w3= .ok r3.pending w4/\Sat (F::(Co w.heap.size (.deferred (some []))::(own1++hsI))) w4:=by
    rintro r3 own1 IW rfl FB;have s4:Sat (lr r3::(own1++(hsI++ [Co w.heap.size (.deferred (some [])),F]))) w3:=by
      have:Sat (CB (lr r3::own1)::(hsI++ [Co w.heap.size (.deferred (some [])),F])) w3:=by simpa using s3
      simpa using this.Hl IW
    have hL3:w3.heap[L]?=some (.loop r3):=s4.at (List.mem_cons_self ..) (CT _ _);refine⟨_,run_endLoop hL3 FB,?_⟩;have s5:=(Le (o':= .loop {r3 with state:= .exhausted}) s4 (fun _=>rfl)).tail;refine s5.perm ?_;have p1:((own1++hsI)++ [Co w.heap.size (.deferred (some [])),F]).Perm ([F,Co w.heap.size (.deferred (some []))]++(own1++hsI)):=
      List.perm_append_comm.trans ((List.Perm.swap F _ []).append_right _)
    simpa [List.append_assoc] using p1
  rcases hJ with ⟨own1,IW,hH,hJ⟩|⟨c,own1,IW,hH,hJ⟩
  · obtain⟨w4,h1,h2⟩:=done rc own1 IW hH (by simp [rc]);refine⟨none,w4,h1,?_⟩;exact GR.mk (ds:=SL.mark w.heap.size::ds) Ak (Gz ha) (by simp [hd]) h2 (Jz _ _ hJ)
  · obtain⟨w4,h1,h2⟩:=done _ own1 IW hH Ak;refine⟨some c,w4,h1,?_⟩;exact Jv _ _ _ hJ _ w4 (Gz ha) (by simp [hd]) h2
end
end Go.SL
end
