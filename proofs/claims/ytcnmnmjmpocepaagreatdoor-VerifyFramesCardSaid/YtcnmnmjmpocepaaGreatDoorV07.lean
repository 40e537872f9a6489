
import Derived.Test.YtcnmnmjmpocepaaGreatDoorV06
import Derived.Laws.Append
import Derived.Laws.CopyRow
import Derived.Below
import Derived.Laws.AppendOwn
set_option linter.unusedVariables false
set_option linter.unusedSimpArgs false
set_option linter.unusedSectionVars false
set_option maxRecDepth 100000
set_option maxHeartbeats 16000000
section
namespace Go.SL
def Gu:List MapEntry->Int->Option Value
  | [],_=>none
  | e::es,z=>match e.key with
    | .int _ a=>if z=a then some e.val else Gu es z
    |_=>none
def Js(k:IntKind)(es:List MapEntry):Prop:=∀e∈es,∃a,e.key= .int k a
theorem Jw{k:IntKind}{z:Int}:∀ {es:List MapEntry} {i:Nat},Js k es->
    (Gu es z=none/\Instr.findNow (.int k) (.int k z) es i=some none)∨∃v j e,Gu es z=some v/\Instr.findNow (.int k) (.int k z) es i=some (some (i+j,v))/\es[j]?=some e/\e.key= .int k z/\
      ∀u,∀y,Gu (es.modify j fun e=>{e with key:= .int k z,val:=u}) y=if y=z then some u else Gu es y
  | [],i,_=> .inl ⟨rfl,rfl⟩
  | e ::es,i,h=>by
    obtain⟨a,ha⟩:=h e (List.mem_cons_self ..);have h2:Js k es:=fun x hx=>h x (List.mem_cons_of_mem _ hx)
    by_cases hz:z=a
    · subst hz;refine .inr ⟨e.val,0,e,by simp [Gu,ha],by simp [Instr.findNow,ha,Instr.sameNow],rfl,ha,fun u y=> ?_⟩;simp only [List.modify_zero_cons,Gu,ha]
      split <;>rfl
    · have hb:(z ==a)=false:=by simpa using hz
      rcases Jw (z:=z) (i:=i+1) h2 with ⟨g1,g2⟩|⟨v,j,e',g1,g2,g3,g4,g5⟩
      · exact .inl ⟨by simp [Gu,ha,hz,g1],by simp [Instr.findNow,ha,Instr.sameNow,hb,g2]⟩
      · refine .inr ⟨v,j+1,e',by simp [Gu,ha,hz,g1],by simp [Instr.findNow,ha,Instr.sameNow,hb,g2];omega,by simpa using g3,g4,fun u y=> ?_⟩;simp only [List.modify_succ_cons,Gu,ha,g5];by_cases hy:y=a
        · subst hy;rw [if_pos rfl,if_pos rfl,if_neg (Ne.symm hz)]
        · rw [if_neg hy,if_neg hy]
theorem Qh{k:IntKind}{z:Int}{v:Value}{n:Nat}:∀ {es:List MapEntry},Js k es->Gu es z=none->∀y,Gu (es++ [⟨.int k z,v,n⟩]) y=if y=z then some v else Gu es y
  | [],_,_,y=>by simp [Gu]
  | e::es,h,hn,y=>by
    obtain⟨a,ha⟩:=h e (List.mem_cons_self ..);have h2:Js k es:=fun x hx=>h x (List.mem_cons_of_mem _ hx)
    have hz:z≠a:=fun e2=>by simp [Gu,ha,e2] at hn
    have Wu:Gu es z=none:=by simpa [Gu,ha,hz] using hn
    simp only [List.cons_append,Gu,ha,Qh h2 Wu];by_cases hy:y=a
    · subst hy;rw [if_pos rfl,if_pos rfl,if_neg (Ne.symm hz)]
    · rw [if_neg hy,if_neg hy]
structure MP(h:CA)(b:Nat)(k:IntKind)(f:Int->Option Value):Prop where
  shape:∃es Lo,h=CV b (.map es Lo)/\Js k es.toList/\∀z,Gu es.toList z=f z
class kC (own:List CA) (h:CA):Prop where
  mem:h∈own
instance kC.head{h:CA}{r:List CA}:kC (h::r) h:=⟨List.mem_cons_self ..⟩
instance (priority:=low) kC.tail{h k:CA}{r:List CA} [t:kC r h]:kC (k::r) h:=⟨List.mem_cons_of_mem _ t.mem⟩
theorem MP.nil{b:Nat}{k:IntKind}:MP (CV b (.map #[] 0)) b k (fun _=>none):=⟨#[],0,rfl,fun e he=>by simp at he,fun z=>rfl⟩
section
variable {P:Program} {own:List CA} {n:Nat} {env:Env} {o:Oper}
theorem HB{t:TypeId}{k:IntKind}{v:Value}(h:P.underlying t=some (.int k))(e:Bool)(w:World):(Instr.checkKey e 10000 t v).run P w= .ok () w:=by
  rw [show(10000:Nat)=9999+1 from rfl,Instr.checkKey];simp [Di h]
theorem Jn{t:TypeId}{k:IntKind}{z:Int}{es:List MapEntry}{r:Option (Nat×Value)}(h:P.underlying t=some (.int k))(hf:Instr.findNow (.int k) (.int k z) es 0=some r)(w:World):(Instr.findKey t (.int k z) es).run P w= .ok r w:=by
  simp [Instr.findKey,Di h,hf]
theorem D4{t kt et:TypeId}{x ix:Operand}{ok:Bool}{k:IntKind}{z:Int}{b:Nat}{h:CA}{f:Int->Option Value}{v zm zk zv:Value}{im ik iv:TypeInfo}{dv:TypeDesc} [h1:Ty P t (.map kt et) zm im] [h2:Ty P kt (.int k) zk ik] [h3:Ty P et dv zv iv]
    (mp:MP h b k f) [hi:kC own h] (ho:o.op= .lookup t x ix ok) (hx:ev env x=some (.map (some b))) (Ld:ev env ix=some (.int k z)) (hf:f z=some v):DG P own n o env (if ok then .tuple #[v,.bool true] else v):=by
  obtain⟨es,Lo,rfl,hk,hl⟩:=mp.shape;refine⟨by rw [ho];rfl,fun a w X ha s=>⟨w,s,.inl ?_⟩⟩;have hb:w.heap[b]?=some (.map es Lo):=s.at (List.mem_append.2 (.inl hi.mem)) (Dq _ _);rcases Jw (z:=z) (i:=0) hk with ⟨g1,g2⟩|⟨v',j,e,g1,g2, -⟩
  · rw [hl,hf] at g1;cases g1
  · rw [hl,hf] at g1;cases g1
    cases ok <;>simp [execOp,ho,ha.eval hx,ha.eval Ld,Instr.lookup,Di h1.u,getObj,Sem.run,hb,HB h2.u,Jn h2.u g2]
theorem N6{t kt et:TypeId}{x ix:Operand}{ok:Bool}{k:IntKind}{z:Int}{b:Nat}{h:CA}{f:Int->Option Value}{zm zk zv:Value}{im ik iv:TypeInfo}{dv:TypeDesc} [h1:Ty P t (.map kt et) zm im] [h2:Ty P kt (.int k) zk ik] [h3:Ty P et dv zv iv]
    (mp:MP h b k f) [hi:kC own h] (ho:o.op= .lookup t x ix ok) (hx:ev env x=some (.map (some b))) (Ld:ev env ix=some (.int k z)) (hf:f z=none):DG P own n o env (if ok then .tuple #[zv,.bool false] else zv):=by
  obtain⟨es,Lo,rfl,hk,hl⟩:=mp.shape;refine⟨by rw [ho];rfl,fun a w X ha s=>⟨w,s,.inl ?_⟩⟩;have hb:w.heap[b]?=some (.map es Lo):=s.at (List.mem_append.2 (.inl hi.mem)) (Dq _ _);rcases Jw (z:=z) (i:=0) hk with ⟨g1,g2⟩|⟨v',j,e,g1,g2, -⟩
  · cases ok <;>simp [execOp,ho,ha.eval hx,ha.eval Ld,Instr.lookup,Di h1.u,getObj,Sem.run,hb,HB h2.u,Jn h2.u g2,h3.z]
  · rw [hl,hf] at g1;cases g1
theorem Qr{t kt et:TypeId}{x ix y:Operand}{k:IntKind}{z:Int}{b:Nat}{h:CA}{f:Int->Option Value}{v zm zk:Value}{im ik:TypeInfo} [h1:Ty P t (.map kt et) zm im] [h2:Ty P kt (.int k) zk ik]
    (mp:MP h b k f) (ho:o.op= .mapUpdate t x ix y) (hx:ev env x=some (.map (some b))) (Ld:ev env ix=some (.int k z)) (hy:ev env y=some v):
    Et P [h] n o env fun _ own'=>∃h',own'= [h']/\MP h' b k (fun q=>if q=z then some v else f q):=by
  obtain⟨es,Lo,rfl,hk,hl⟩:=mp.shape;refine⟨by rw [ho];rfl,fun a w X ha s=> ?_⟩;have s1:Sat (CV b (.map es Lo)::X) w:=by simpa using s
  have hb:w.heap[b]?=some (.map es Lo):=s1.at (List.mem_cons_self ..) (Dq _ _);have hset:∀ob:Obj,(∀off,Pt ob off=false)->∃w',(setObj b ob).run P w= .ok () w'/\Sat (CV b ob::X) w':=fun ob hz=>by
    refine⟨{w with heap:=w.heap.set! b ob},by simp [setObj,Sem.run,hb],?_⟩;have E6:b<w.heap.size:=(Array.getElem?_eq_some_iff.1 hb).1;refine s1.put (by simp [E6]) rfl rfl (fun q hq=> ?_) (fun off=>by rw [hz];rfl);simp [Ne.symm hq]
  rcases Jw (z:=z) (i:=0) hk with ⟨g1,g2⟩|⟨v',j,e,g1,g2,g3,g4,g5⟩
  · obtain⟨w',hr,s'⟩:=hset (.map (es.push ⟨.int k z,v,Lo⟩) (Lo+1)) (fun _=>rfl);refine⟨w',.inr (.inl ⟨[CV b (.map (es.push ⟨.int k z,v,Lo⟩) (Lo+1))],?_,by simpa using s',_,rfl,⟨_,_,rfl,fun e he=> ?_,fun y=> ?_⟩⟩)⟩
    · simp [execOp,ho,ha.eval hx,ha.eval Ld,ha.eval hy,Instr.mapUpdate,Di h1.u,getObj,Sem.run,hb,HB h2.u,Jn h2.u g2,hr]
    · rw [Array.toList_push,List.mem_append] at he
      rcases he with he|he
      · exact hk e he
      · simp at he;subst he;exact⟨z,rfl⟩
    · rw [Array.toList_push,Qh hk g1,hl]
  · obtain⟨w',hr,s'⟩:=hset (.map (es.modify j fun e=>{e with key:= .int k z,val:=v}) Lo) (fun _=>rfl);refine⟨w',.inr (.inl ⟨[CV b (.map (es.modify j fun e=>{e with key:= .int k z,val:=v}) Lo)],?_,by simpa using s',_,rfl,⟨_,_,rfl,fun e he=> ?_,fun y=> ?_⟩⟩)⟩
    · have MU:(Instr.keyThatStays (.int k z) (.int k z)).run P w= .ok (.int k z) w:=by simp [Instr.keyThatStays,Instr.sameBits]
      have oF:es[j]?=some e:=by simpa using g3
      simp [execOp,ho,ha.eval hx,ha.eval Ld,ha.eval hy,Instr.mapUpdate,Di h1.u,getObj,Sem.run,hb,HB h2.u,Jn h2.u g2,oF,g4,MU,hr]
    · rw [Array.toList_modify] at he
      obtain⟨i,hi,rfl⟩:=List.mem_iff_getElem.1 he;rw [List.getElem_modify]
      split
      · exact⟨z,rfl⟩
      · exact hk _ (List.getElem_mem _)
    · rw [Array.toList_modify,g5,hl]
end
section
variable {P:Program} {r:Option Nat} {F:CA} {n:Nat} {Q:DD} {env:Env} {own rest hs Dk:List CA} {ds:List Deferred} {all:Array Oper} {l:List Oper} {o:Oper}
theorem Zd{t kt et:TypeId}{x ix y:Operand}{k:IntKind}{z:Int}{b:Nat}{h:CA}{f:Int->Option Value}{v zm zk:Value}{im ik:TypeInfo} [h1:Ty P t (.map kt et) zm im] [h2:Ty P kt (.int k) zk ik]
    (hd:o.dst=none) (hg:C6 all env o=some true) (ho:o.op= .mapUpdate t x ix y) (hx:ev env x=some (.map (some b))) (Ld:ev env ix=some (.int k z)) (hy:ev env y=some v) (mp:MP h b k f) [tk:Dx own [h] rest]
    (next:∀h',MP h' b k (fun q=>if q=z then some v else f q)->DE false P r F n all l Q env (h'::rest) ds):DE false P r F n all (o::l) Q env own ds:=
  Ph hd hg (Qr mp ho hx Ld hy) fun v' own' hR=>by
    obtain⟨h',rfl,nU⟩:=hR;exact⟨_,rfl,next h' nU⟩
theorem Mm{t:TypeId}{d:Nat}(hd:o.dst=some d)(hn:Nat.blt d n=true)(hg:C6 all env o=some true)(ho:o.op= .makeMap t none)
    (next:∀b,DE false P r F n all l Q ((d,.map (some b))::env) (CV b (.map #[] 0)::own) ds):DE false P r F n all (o::l) Q env own ds:=by
  refine Jl hd hn hg (by rw [ho];rfl) fun A w hA hs=> ?_
  refine⟨.map (some w.heap.size),{w with heap:=w.heap.push (.map #[] 0)},CV w.heap.size (.map #[] 0)::own,?_,(EN hs _ (fun _=>rfl)).swap,next _⟩;simp [execOp,ho,Instr.makeMap,newObj,Sem.run]
end
end Go.SL
end
section
namespace Go.SL
section
variable {P:Program} {r:Option Nat} {F:CA} {n:Nat} {Q:DD} {env:Env} {own rest hs Dk:List CA} {ds:List Deferred} {all:Array Oper} {l:List Oper} {o:Oper}
theorem Tm{t e:TypeId}{bytes m d:Nat}{x y:Operand}{zv:Value}{de:TypeDesc}{ti:TypeInfo} [g:NI P t e 1 bytes] [z:Ty P e de zv ti]
    (hd:o.dst=some d) (hn:Nat.blt d n=true) (hg:C6 all env o=some true) (ho:o.op= .makeSlice t x y) (hx:ev env x=some (.int .i64 (m:Int))) (hy:ev env y=some (.int .i64 (m:Int)))
    (hz:EA zv=some [zv]) (FJ:m*bytes≤70368744177664) (hm:m≤70368744177664)
    (next:∀b h,OS h (some ⟨b,0,none⟩) m m e 1 (List.replicate m zv)->DE false P r F n all l Q ((d,.slice (some ⟨b,0,none⟩) m m)::env) (h::own) ds):DE false P r F n all (o::l) Q env own ds:=by
  refine Jl hd hn hg (by rw [ho];rfl) fun A w hA hs=> ?_
  obtain⟨i,z',g1,g2,g3,g4,g5,g6⟩:=g.all;subst g6;have wl:IntKind.i64.wrap (m:Int)=m:=Dz Ab Ab;have hb:¬(281474976710656<(i.bytes:Int)*m):=by
    have:(i.bytes:Int)*m=((m*i.bytes:Nat):Int):=by rw [Int.natCast_mul,Int.mul_comm]
    omega
  have hn':¬((m:Int)<0):=by omega
  have hroom':∀w:World,(askRoom (m*i.bytes)).run P w= .ok () w:=fun w=>by unfold askRoom;split <;>simp
  have Sq:zv.cells= #[zv]:=Fg hz;have hzz:((Array.range m).map fun x=>zv.cells[x%zv.cells.size]!)=⟨List.replicate m zv⟩:=by
    rw [Sq];apply Array.ext';apply List.ext_getElem?;intro j;by_cases hj:j<m
    · simp [hj,Nat.mod_one]
    · simp [hj]
  refine⟨.slice (some ⟨w.heap.size,0,none⟩) m m,{w with heap:=w.heap.push (.cells ⟨List.replicate m zv⟩ e (0,0))},CV w.heap.size (.cells ⟨List.replicate m zv⟩ e (0,0))::own,?_,(EN hs _ (fun _=>by simp [Pt])).swap,next _ _ (OS.CV Am)⟩;have hzn:∀w,(zeroValue e).run P w= .ok zv w:=fun w=>z.z w
  by_cases h0:m=0
  · subst h0;simp [execOp,ho,hA.eval hx,hA.eval hy,Instr.makeSlice,Di g1,asInt,asIntOf,I3 g2,Ej g2,g5,newRow,askRoom,IntKind.wrap,IntKind.bits,IntKind.signed,show(Array.range 0).map (fun(_:Nat)=>(default:Value))=⟨[]⟩ by simp]
  · simp [execOp,ho,hA.eval hx,hA.eval hy,Instr.makeSlice,Di g1,asInt,asIntOf,I3 g2,wl,hb,hn',hroom',Ej g2,g5,h0,newRow,hzn,hzz]
end
end Go.SL
end
section
namespace Go.SL
section
variable {P:Program} {r:Option Nat} {F:CA} {n:Nat} {Q:DD} {env:Env} {own rest hs Dk:List CA} {ds:List Deferred} {all:Array Oper} {l:List Oper} {o:Oper}
theorem aZ {t e:TypeId}{bytes len cap i:Nat}{c:Call}{x:Operand}{base:Option Addr}{h:CA}{zv:Value}{de:TypeDesc}{ti:TypeInfo}{cs:List Value} [g:NI P t e 1 bytes] [z:Ty P e de zv ti]
    (hd:o.dst=none) (hg:C6 all env o=some true) (ho:o.op= .call c) (hc:c.callee= .builtin .clear) (Jc:c.args= #[x]) (FD:c.argTypes= #[t]) (os:OS h base len cap e 1 cs)
    (hx:ev env x=some (.slice (sub base i cap 1) (len - i) (cap - i))) [tk:Dx own [h] rest] (hz:EA zv=some [zv]) (h1:zv.oneCell'=true) (hi:i≤len)
    (next:∀h',OS h' base i cap e 1 (cs.take i)->DE false P r F n all l Q env (h'::rest) ds):DE false P r F n all (o::l) Q env own ds:=by
  have hl:=os.hlen;have hle:=os.hle;refine Ph (hs:= [h]) (R:=fun _ own'=>∃h',own'= [h']/\OS h' base i cap e 1 (cs.take i)) hd hg ⟨by rw [ho];rfl,fun A w X hA s=> ?_⟩ (fun v own' hR=>by obtain⟨h',rfl,HS⟩:=hR;exact⟨_,rfl,next h' HS⟩);obtain⟨inf,z',g1,g2,g3,g4,g5,g6⟩:=g.all;rcases Nat.eq_or_lt_of_le hi with e0|E6
  · subst e0;refine⟨w,.inl ⟨.tuple #[],[h],?_,s,h,rfl,by rw [List.take_of_length_le Ab];exact os⟩⟩;rw [Nat.sub_self] at hx
    cases hb:sub base i cap 1 with
    |none=>rw [hb] at hx;simp [execOp,ho,resolve,hc,Jc,FD,invoke,builtin,hA.eval hx,Builtin.clear_,Di g1]
    |some a=>rw [hb] at hx;simp [execOp,ho,resolve,hc,Jc,FD,invoke,builtin,hA.eval hx,Builtin.clear_,Di g1]
  · rcases os.shape with ⟨-,h2, -⟩|⟨b,off,arr,hb,hh,Hs,Oi⟩
    · omega
    · subst hb;subst hh;have KO:sub (some (⟨b,off,none⟩:Addr)) i cap 1=some ⟨b,off+i,none⟩:=by
        unfold sub;rw [if_neg Ab];simp [Es]
      rw [KO] at hx
      have s1:Sat (CV b (.cells arr e (0,0))::X) w:=by simpa using s
      have hbw:w.heap[b]?=some (.cells arr e (0,0)):=s1.at (List.mem_cons_self ..) (Dq _ _)
      let zs:List Value:=List.replicate (len - i) zv
      have Gy:=run_storeCells_at P b (off+i) e zs 0 arr w hbw (by simp [zs];omega) (by intro v hv;rw [List.eq_of_mem_replicate hv];exact h1)
      let arr':Array Value:=(arr.toList.take (off+i+0)++zs++arr.toList.drop (off+i+0+zs.length)).toArray
      have Sq:zv.cells= #[zv]:=Fg hz;have hzz:(Builtin.zeroCells zv.cells (len - i)).toList=zs:=by
        rw [Sq];apply List.ext_getElem?;intro j;simp only [Builtin.zeroCells,zs];by_cases hj:j<len - i
        · simp [hj,Nat.mod_one]
        · simp [hj]
      have hzn:∀w,(zeroValue e).run P w= .ok zv w:=fun w=>z.z w
      have FE:(execOp A.eval o).run P w= .ok (.value (.tuple #[])) (w.setRow b arr'):=by
        have h0:len - i≠0:=by omega
        obtain⟨q,hq⟩:∃q,len - i=q+1:=⟨len - i - 1,by omega⟩;rw [hq] at hx hzz
        simp [execOp,ho,resolve,hc,Jc,FD,invoke,builtin,hA.eval hx,Builtin.clear_,Di g1,hzn,hzz,Gy,arr']
      refine⟨w.setRow b arr',.inl ⟨.tuple #[],[CV b (.cells arr' e (0,0))],FE,?_,_,rfl,?_⟩⟩
      · have s2:=s1.put (setRow_heap w b _ arr' e (0,0) hbw) Av Av (fun k hk=>setRow_other w b k _ hk) (fun _=>rfl);simpa using s2
      · refine⟨by rw [List.length_take];omega,by omega,.inr ⟨b,off,arr',rfl,rfl,?_,fun j v hj=> ?_⟩⟩
        · have:arr'.size=arr.size:=by simp [arr',zs];omega
          rw [this];exact Hs
        · rw [List.getElem?_take] at hj
          split at hj
          · rename_i hji
            have:=Oi j v hj;simp only [arr',Nat.add_zero,List.getElem?_toArray,List.append_assoc];rw [List.getElem?_append_left As,List.getElem?_take,if_pos Ab];simpa using this
          · cases hj
end
end Go.SL
end
section
namespace Go.SL
theorem cW{P:Program}{n:Nat}{o:Oper}{env:Env}{t t2 e:TypeId}{c:Call}{x y:Operand}{base b2:Option Addr}{len cap n2 c2:Nat}{h k:CA}{cs src:List Value}{T:TypeId} [g:OZ P t e 1]
    (os:OS h base len cap T 1 cs) (sl:Sl k b2 src) (Yw:src.length=n2) (hn:n2≤len) (hp:0<len) (h1:src.all (·.oneCell')=true)
    (ho:o.op= .call c) (hc:c.callee= .builtin .copy) (Jc:c.args= #[x,y]) (FD:c.argTypes= #[t,t2]) (hx:ev env x=some (.slice base len cap)) (hy:ev env y=some (.slice b2 n2 c2)):
    Et P [h,k] n o env fun v own'=>v= .int .i64 (n2:Int)/\∃h',own'= [h',k]/\OS h' base len cap T 1 (src++cs.drop n2):=by
  refine⟨by rw [ho];rfl,fun a w X ha hs=> ?_⟩;have hl:=os.hlen;rcases os.shape with ⟨-,h2, -, -⟩|⟨b,off,arr,hb,hh,hsize,Oi⟩
  · omega
  · subst hb;subst hh;have s1:Sat (CV b (.cells arr T (0,0))::k::X) w:=by simpa using hs
    have hb:w.heap[b]?=some (.cells arr T (0,0)):=s1.at (List.mem_cons_self ..) (Dq _ _);have hle:=os.hle;have Gy:=run_storeCells_at P b off T src 0 arr w hb Ab (by simpa using h1)
    let arr':Array Value:=(arr.toList.take (off+0)++src++arr.toList.drop (off+0+src.length)).toArray
    have hmin:Nat.min n2 len=n2:=Nat.min_eq_left hn;have hfc:(Builtin.firstCells 1 n2 (.slice b2 n2 c2)).run P w= .ok src.toArray w:=by
      rcases Nat.eq_zero_or_pos n2 with h0|av
      · subst h0;obtain rfl:src= []:=List.length_eq_zero_iff.1 Yw;cases b2 with
        |none=>simp [Builtin.firstCells]
        |some q=>exact run_firstCells_some (P:=P) w 1 0 q 0 c2 [] rfl fun j v hj=>by cases hj
      · obtain⟨v0,ru⟩:∃v,src[0]?=some v:=⟨_,List.getElem?_eq_getElem Ab⟩;obtain⟨⟨bb,o2,sp⟩,arr2,T2,fz2,q1,q2,q3,q4⟩:=sl.cell 0 v0 ru;obtain rfl:sp=none:=q2;subst q1;refine run_firstCells_some (P:=P) w 1 n2 ⟨bb,o2,none⟩ n2 c2 src Ab fun j v hj=> ?_
        obtain⟨a',mH,T3,qe,p1,p2,p3,p4⟩:=sl.cell j v hj;cases p1;have:=s1.at (List.mem_cons_of_mem _ (List.mem_cons_self ..)) p3;have e:Addr.add ⟨bb,o2,none⟩ j=⟨bb,o2+j,none⟩:=by simp [Addr.add]
        rw [e,Hf this];exact p4
    have FE:(execOp a.eval o).run P w= .ok (.value (.int .i64 (n2:Int))) (w.setRow b arr'):=by
      simp only [execOp,ho];simp [resolve,hc,Jc,FD,invoke,builtin,Builtin.copy_,ha.eval hx,ha.eval hy,Di g.u,Builtin.lenOf,goInt,g.s];rw [hmin,hfc];simp only [Result.andThen];rw [Gy]
    refine⟨w.setRow b arr',.inl ⟨_,[CV b (.cells arr' T (0,0)),k],FE,?_,rfl,_,rfl,?_⟩⟩
    · have s2:=s1.put (setRow_heap w b _ arr' T (0,0) hb) Av Av (fun k hk=>setRow_other w b k _ hk) (fun _=>rfl);simpa using s2
    · refine⟨by simp;omega,os.hle,.inr ⟨b,off,arr',rfl,rfl,?_,fun j v hj=> ?_⟩⟩
      · have:arr'.size=arr.size:=by simp [arr'];omega
        rw [this];exact hsize
      · simp only [arr',Nat.add_zero,List.getElem?_toArray];have e2:(arr.toList.take off).length=off:=by simp;omega
        rw [List.append_assoc,List.getElem?_append_right Ab,e2,show off+j - off=j by omega];by_cases h2:j<src.length
        · rw [List.getElem?_append_left h2] at hj ⊢;exact hj
        · rw [List.getElem?_append_right Ab,List.getElem?_drop] at hj ⊢
          have:=Oi _ v hj;rw [show off+(n2+(j - src.length))=off+src.length+(j - src.length) by omega] at this
          simpa using this
section
variable {P:Program} {r:Option Nat} {F:CA} {n:Nat} {Q:DD} {env:Env} {own rest hs Dk:List CA} {ds:List Deferred} {all:Array Oper} {l:List Oper} {o:Oper}
theorem eZ{d:Nat}{t t2 e:TypeId}{c:Call}{x y:Operand}{base b2:Option Addr}{len cap n2 c2:Nat}{h k:CA}{cs src:List Value}{T:TypeId} [g:OZ P t e 1]
    (hd:o.dst=some d) (gg:Nat.blt d n=true) (hg:C6 all env o=some true) (ho:o.op= .call c) (hc:c.callee= .builtin .copy) (Jc:c.args= #[x,y]) (FD:c.argTypes= #[t,t2]) (hx:ev env x=some (.slice base len cap)) (hy:ev env y=some (.slice b2 n2 c2))
    (os:OS h base len cap T 1 cs) (sl:Sl k b2 src) [tk:Dx own [h,k] rest] (Yw:src.length=n2) (hn:n2≤len) (hp:0<len) (h1:src.all (·.oneCell')=true)
    (next:∀h',OS h' base len cap T 1 (src++cs.drop n2)->DE false P r F n all l Q ((d,.int .i64 (n2:Int))::env) (h'::k::rest) ds):DE false P r F n all (o::l) Q env own ds:=
  Mn hd gg hg (cW os sl Yw hn hp h1 ho hc Jc FD hx hy) fun v' own' hR=>by
    obtain⟨rfl,h',rfl,HS⟩:=hR;exact⟨_,rfl,next h' HS⟩
end
end Go.SL
end
section
namespace Go.SL
section
variable {P:Program} {own:List CA} {n:Nat} {env:Env} {o:Oper}
theorem XA{t kt et:TypeId}{x ix y:Operand}{k:IntKind}{z:Int}{b:Nat}{h:CA}{f:Int->Option Value}{v zm zk:Value}{im ik:TypeInfo} [h1:Ty P t (.map kt et) zm im] [h2:Ty P kt (.int k) zk ik]
    (mp:MP h b k f) (ho:o.op= .insert t x ix y) (hx:ev env x=some (.map (some b))) (Ld:ev env ix=some (.int k z)) (hy:ev env y=some v):
    Et P [h] n o env fun _ own'=>∃h',own'= [h']/\MP h' b k (fun q=>if q=z then some v else f q):=by
  obtain⟨-,g⟩:=Qr (P:=P) (n:=n) (env:=env) (t:=t) (kt:=kt) (et:=et) (o:={o with op:= .mapUpdate t x ix y}) mp rfl hx Ld hy;refine⟨by rw [ho];rfl,fun a w X ha s=> ?_⟩;have e:execOp a.eval o=execOp a.eval {o with op:= .mapUpdate t x ix y}:=by unfold execOp;rw [ho]
  rw [e];exact g a w X ha s
end
section
variable {P:Program} {r:Option Nat} {F:CA} {n:Nat} {Q:DD} {env:Env} {own rest hs Dk:List CA} {ds:List Deferred} {all:Array Oper} {l:List Oper} {o:Oper}
theorem Zf{t kt et:TypeId}{x ix y:Operand}{k:IntKind}{z:Int}{b:Nat}{h:CA}{f:Int->Option Value}{v zm zk:Value}{im ik:TypeInfo} [h1:Ty P t (.map kt et) zm im] [h2:Ty P kt (.int k) zk ik]
    (hd:o.dst=none) (hg:C6 all env o=some true) (ho:o.op= .insert t x ix y) (hx:ev env x=some (.map (some b))) (Ld:ev env ix=some (.int k z)) (hy:ev env y=some v) (mp:MP h b k f) [tk:Dx own [h] rest]
    (next:∀h',MP h' b k (fun q=>if q=z then some v else f q)->DE false P r F n all l Q env (h'::rest) ds):DE false P r F n all (o::l) Q env own ds:=
  Ph hd hg (XA mp ho hx Ld hy) fun v' own' hR=>by
    obtain⟨h',rfl,nU⟩:=hR;exact⟨_,rfl,next h' nU⟩
end
end Go.SL
end
section
namespace Go.SL
theorem kl{P:Program}{f:FuncId}{args:List Value}{own:List CA}{R:Ending->List CA->List CA->Prop}
    (h:T P f args own fun e o=>∃A N,o=N++A/\R e A N):T P f args own fun e o=>∃A N K,o=K::A/\(∀k∈N,hle k K)/\R e A N:=by
  intro w X s;refine(h w X s).mono ?_;rintro e w' ⟨o,s2,A,N,rfl,hR⟩;have s3:Sat (N++(A++X)) w':=by simpa using s2
  have d:N.Pairwise Eo:=(List.pairwise_append.1 s3.dj).1;exact⟨Da N::A,by simpa using s3.Da,A,N,Da N,rfl,fun k hk=>Fe d hk,hR⟩
theorem Lt{P:Program}{r:Option Nat}{F:CA}{n:Nat}{c:Code}{Q:DD}{env:Env}{own rest:List CA}{ds:List Deferred}(hs:List CA) [t:Dx own hs rest]
    (h:∀K,(∀k∈hs,hle k K)->DI P r F n c Q env (K::rest) ds):DI P r F n c Q env own ds:=by
  intro a w ha OT s;have pp:(F::own).Perm (hs++(rest++ [F])):=(List.perm_append_comm (l₁:= [F]) (l₂:=own)).trans (by rw [<-List.append_assoc];exact t.perm.append_right [F]);have s2:Sat (hs++(rest++ [F])) w:=s.perm pp;have d:hs.Pairwise Eo:=(List.pairwise_append.1 s2.dj).1;exact h (Da hs) (fun k hk=>Fe d hk) a w ha OT (s2.Da.perm (by
    rw [<-List.cons_append];exact List.perm_append_comm (l₁:=Da hs::rest) (l₂:= [F])))
end Go.SL
end
section
namespace Go.SL
theorem Ka{P:Program}{own:List CA}{n:Nat}{env:Env}{o:Oper}{x:Operand}{a:Addr}(ho:o.op= .nilCheck x)(hx:ev env x=some (.pointer (some a))):DG P own n o env (.pointer (some a)):=
  DC (by rw [ho];rfl) fun c w ha=>by simp [execOp,ho,ha.eval hx]
end Go.SL
end
section
namespace Go.SL
def iV(P:Program)(f:FuncId)(first captured:List Value)(hs:List CA)(nx:Nat->CA->Option (List Value)->Prop):Prop:=
  ∀ (L:Nat) (J:Nat->CA->Prop) (Jd Jx:CA->Prop),
    (∀k H,J k H->(∃x,nx k H (some x)/\YT P L x H fun v H'=>(v= .bool true/\J (k+1) H')∨(v= .bool false/\Jx H'))∨(nx k H none/\Jd H))->
    ∀H,J 0 H->T P f (first++ [.func (.yield L) #[] #[]]++captured) (H::hs) fun e own'=>e= .returned (.tuple #[])/\∃H',own'=H'::hs/\(Jd H'∨Jx H')
theorem Qu{h:CA}{own:List CA}(d:(h::own).Pairwise Eo):hle (Da own) (Da (h::own)):=
  Fl (MH (List.pairwise_cons.1 d).1)
section
variable {P:Program} {F:CA} {n:Nat} {Q:DD} {env:Env} {own rest hsI:List CA} {ds:List Deferred} {assign body:Code}
theorem PK{g:Operand}{ps:Array Tmp}{f:FuncId}{first captured:Array Value}{nx:Nat->CA->Option (List Value)->Prop} [he:Enters P f] [t:Dx own hsI rest]
    (J:Nat->List CA->Prop) (Jd:List CA->Prop) (Jx:Code->List CA->Prop)
    (hg:ev env g=some (.func (.func f) first captured)) (hI:iV P f first.toList captured.toList hsI nx) (Yy:∀k H H' o,hle H H'->nx k H o->nx k H' o)
    (au:ps.toList.all (fun p=>Nat.blt p n)=true) (h0:J 0 rest)
    (MA:∀L k own1,J k own1->own1.Pairwise Eo->(∃x,nx k (Da own1) (some x)/\x.length=ps.size/\∀F,∃Ll,Wa ps.toList x env=some Ll/\DI P (some L) F n assign (Re (fun J6 Dp gC=>∀F2,DI P (some L) F2 n body (MJ (J (k+1)) Jx) J6 Dp gC) fun _ _ _ _=>False) Ll own1 [])∨(nx k (Da own1) none/\Jd own1))
    (Le:∀D own1,Jd own1->∃Dp,IT own1 hsI=some Dp/\Q .normal env (CV D (.deferred (some []))::Dp) (mark D::ds))
    (Lb:∀D c own1,Jx c own1->∃Dp,IT own1 hsI=some Dp/\DI P none F n c Q env (CV D (.deferred (some []))::Dp) (mark D::ds)):
    DI P none F n (.rangeFunc g ps assign body) Q env own ds:=by
  have Le:∀D own1,Jd own1->Q .normal env (CV D (.deferred (some []))::(own1++hsI)) (mark D::ds):=fun D own1 hJ=>by
    obtain⟨Dp,e,h⟩:=Le D own1 hJ;rw [Gd e] at h;exact h
  have Lb:∀D c own1,Jx c own1->DI P none F n c Q env (CV D (.deferred (some []))::(own1++hsI)) (mark D::ds):=fun D c own1 hJ=>by
    obtain⟨Dp,e,h⟩:=Lb D c own1 hJ;rw [Gd e] at h;exact h
  intro a w ha hd hs;refine wpIn_rangeFunc fun fn _=> ?_
  let L:=w.heap.size+1
  let rc:Loop:={state:= .ready,pending:=none,fn,tmps:=a.tmps,params:=ps,assign,body,defers:=w.heap.size}
  let xv:Value:= .func (.yield L) #[] #[]
  let w1:=(w.alloc (.deferred (some []))).alloc (.loop rc)
  have Og:(resolve a.eval (rangeCall g L) 0).run P w1= .ok {target:= .fn (.func f) captured,args:=first++ #[xv]} w1:=by
    simp only [resolve,ha.eval hg,Deferred.ofValue,Sem.run_pure];simp [Act.eval,xv]
  have hinv:(invoke (.fn (.func f) captured) (first++ #[xv])).run P w1= .ok (.enter f (first++ #[xv]++captured)) w1:=he.run _ _;refine⟨L,[SL.mark w.heap.size],w1,{target:= .fn (.func f) captured,args:=first++ #[xv]},w1,f,first++ #[xv]++captured,w1,run_enterLoop_outer fn a.tmps ps assign body,Og,fun _ _=>by simp,hinv,fun hx=>by simp at hx,F0 _ ?_⟩;have e:first++ #[xv]++captured=(first.toList++ [xv]++captured.toList).toArray:=by apply Array.ext';simp
  rw [e];have sD:Sat (CV w.heap.size (.deferred (some []))::F::own) (w.alloc (.deferred (some []))):=EN hs _ (fun _=>rfl);have sL:Sat (CV L (.loop rc)::CV w.heap.size (.deferred (some []))::F::own) w1:=by
    have:=EN sD (.loop rc) (fun _=>rfl);rw [World.size_alloc] at this;exact this
  have sA:Sat ((CV L (.loop rc)::rest)++(hsI++ [CV w.heap.size (.deferred (some [])),F])) w1:=by
    refine sL.perm ((?_:List.Perm _ _).cons _);refine((t.perm.cons F).cons _).trans ?_;have p1:(CV w.heap.size (.deferred (some []))::F::(hsI++rest)).Perm ((hsI++rest)++ [CV w.heap.size (.deferred (some [])),F]):=List.perm_append_comm (l₁:= [CV w.heap.size (.deferred (some [])),F]) (l₂:=hsI++rest);refine p1.trans ?_;have p2:(hsI++rest).Perm (rest++hsI):=List.perm_append_comm;simpa [List.append_assoc] using p2.append_right [CV w.heap.size (.deferred (some [])),F]
  let lr:Loop->CA:=fun r=>CV L (.loop r)
  let JJ:Nat->CA->Prop:=fun k H=>∃own1,(lr rc::own1).Pairwise Eo/\H=Da (lr rc::own1)/\J k own1
  let JD:CA->Prop:=fun H=>∃own1,(lr rc::own1).Pairwise Eo/\H=Da (lr rc::own1)/\Jd own1
  let JX:CA->Prop:=fun H=>∃c own1,(lr {rc with state:= .done,pending:=some c}::own1).Pairwise Eo/\H=Da (lr {rc with state:= .done,pending:=some c}::own1)/\Jx c own1
  have hpn:∀p∈ps.toList,p<n:=fun p hp=>Nat.le_of_ble_eq_true (List.all_eq_true.1 au p hp)
  have hT:=hI L JJ JD JX (fun k H hJ=>by
    obtain⟨own1,Ks,rfl,hJ⟩:=hJ;rcases MA L k own1 hJ (List.pairwise_cons.1 Ks).2 with ⟨x,h1,h2,h3⟩|⟨h1,h2⟩
    · refine .inl ⟨x,Yy _ _ _ _ (Qu Ks) h1,?_⟩;exact PB (rc:=rc) (HO ha) hpn h2 rfl Ks fun F=>by
        obtain⟨Ll,e,h⟩:=h3 F;rw [QU e] at h;exact h
    · exact .inr ⟨Yy _ _ _ _ (Qu Ks) h1,own1,Ks,rfl,h2⟩) _ ⟨rest,(sA.sub (List.sublist_append_left _ _)).dj,rfl,h0⟩
  refine(hT w1 [CV w.heap.size (.deferred (some [])),F] (by simpa using sA.Da)).mono ?_;rintro e w3 ⟨own',s3,rfl,H',rfl,hJ⟩;have done:∀(r3:Loop) own1,(lr r3::own1).Pairwise Eo->H'=Da (lr r3::own1)->r3.state≠ .busy->
      ∃w4,(Instr.endLoop L).run P w3= .ok r3.pending w4/\Sat (F::(CV w.heap.size (.deferred (some []))::(own1++hsI))) w4:=by
    rintro r3 own1 Ks rfl Gy;have s4:Sat (lr r3::(own1++(hsI++ [CV w.heap.size (.deferred (some [])),F]))) w3:=by
      have:Sat (Da (lr r3::own1)::(hsI++ [CV w.heap.size (.deferred (some [])),F])) w3:=by simpa using s3
      simpa using this.IL Ks
    have hL3:w3.heap[L]?=some (.loop r3):=s4.at (List.mem_cons_self ..) (Dq _ _);refine⟨_,run_endLoop hL3 Gy,?_⟩;have s5:=(M3 (o':= .loop {r3 with state:= .exhausted}) s4 (fun _=>rfl)).tail;refine s5.perm ?_;have p1:((own1++hsI)++ [CV w.heap.size (.deferred (some [])),F]).Perm ([F,CV w.heap.size (.deferred (some []))]++(own1++hsI)):=
      List.perm_append_comm.trans ((List.Perm.swap F _ []).append_right _)
    simpa [List.append_assoc] using p1
  rcases hJ with ⟨own1,Ks,hH,hJ⟩|⟨c,own1,Ks,hH,hJ⟩
  · obtain⟨w4,h1,h2⟩:=done rc own1 Ks hH (by simp [rc]);refine⟨none,w4,h1,?_⟩;exact H9.mk (ds:=SL.mark w.heap.size::ds) Am (HO ha) (by simp [hd]) h2 (Le _ _ hJ)
  · obtain⟨w4,h1,h2⟩:=done _ own1 Ks hH Am;refine⟨some c,w4,h1,?_⟩;exact Lb _ _ _ hJ _ w4 (HO ha) (by simp [hd]) h2
end
theorem Gw{P:Program}{f:FuncId}{args:List Value}{own:List CA}{R:Ending->List CA->List CA->Prop}
    (h:T P f args own fun e o=>∃A N,o.Perm (N++A)/\R e A N):T P f args own fun e o=>∃A N K,o=K::A/\(∀k∈N,hle k K)/\R e A N:=by
  intro w X s;refine(h w X s).mono ?_;rintro e w' ⟨o,s2,A,N,hp,hR⟩;have s3:Sat (N++(A++X)) w':=s2.perm (by simpa using hp.append_right X);have d:N.Pairwise Eo:=(List.pairwise_append.1 s3.dj).1;exact⟨Da N::A,by simpa using s3.Da,A,N,Da N,rfl,fun k hk=>Fe d hk,hR⟩
theorem Ds.RO{own:List CA}{base:Option Addr}{cs:List Value}(s:Ds own base cs){K:CA}(h:∀k∈own,hle k K):Sl K base cs:=by
  obtain⟨k,hk,e⟩:=s.mem;exact e.mono (h k hk)
end Go.SL
end
section
namespace Go.SL
end Go.SL
end
section
namespace Go.SL
theorem Fw{P:Program}{n:Nat}{env:Env}{o:Oper}{t e:TypeId}{bytes m:Nat}{x y:Operand}{zv:Value}{de:TypeDesc}{ti:TypeInfo} [g:NI P t e 1 bytes] [z:Ty P e de zv ti]
    (ho:o.op= .makeSlice t x y) (hx:ev env x=some (.int .i64 (m:Int))) (hy:ev env y=some (.int .i64 (m:Int)))
    (hz:EA zv=some [zv]) (FJ:m*bytes≤70368744177664) (hm:m≤70368744177664):
    Mh P n o env (fun b=> .slice (some ⟨b,0,none⟩) m m) (.cells ⟨List.replicate m zv⟩ e (0,0)):=by
  refine⟨by rw [ho];rfl,fun _=>by simp [Pt],fun A w hA=> ?_⟩;obtain⟨i,z',g1,g2,g3,g4,g5,g6⟩:=g.all;subst g6;have wl:IntKind.i64.wrap (m:Int)=m:=Dz Ab Ab;have hb:¬(281474976710656<(i.bytes:Int)*m):=by
    have:(i.bytes:Int)*m=((m*i.bytes:Nat):Int):=by rw [Int.natCast_mul,Int.mul_comm]
    omega
  have hn':¬((m:Int)<0):=by omega
  have hroom':∀w:World,(askRoom (m*i.bytes)).run P w= .ok () w:=fun w=>by unfold askRoom;split <;>simp
  have Sq:zv.cells= #[zv]:=Fg hz;have hzz:((Array.range m).map fun x=>zv.cells[x%zv.cells.size]!)=⟨List.replicate m zv⟩:=by
    rw [Sq];apply Array.ext';apply List.ext_getElem?;intro j;by_cases hj:j<m
    · simp [hj,Nat.mod_one]
    · simp [hj]
  have hzn:∀w,(zeroValue e).run P w= .ok zv w:=fun w=>z.z w
  by_cases h0:m=0
  · subst h0;simp [execOp,ho,hA.eval hx,hA.eval hy,Instr.makeSlice,Di g1,asInt,asIntOf,I3 g2,Ej g2,g5,newRow,askRoom,IntKind.wrap,IntKind.bits,IntKind.signed,show(Array.range 0).map (fun(_:Nat)=>(default:Value))=⟨[]⟩ by simp]
  · simp [execOp,ho,hA.eval hx,hA.eval hy,Instr.makeSlice,Di g1,asInt,asIntOf,I3 g2,wl,hb,hn',hroom',Ej g2,g5,h0,newRow,hzn,hzz]
end Go.SL
end
section
namespace Go.SL
section
variable {P:Program} {r:Option Nat} {F:CA} {n:Nat} {Q:DD} {env:Env} {own:List CA} {ds:List Deferred}
theorem Tg(k:Nat){l:Array Oper}{d:Bool}{c1 c2:Code}(h:DI P r F n (((Code.region k l d).seq c1).seq c2) Q env own ds):DI P r F n (((Code.region k l d).seq c1).seq c2) Q env own ds:=h
end
end Go.SL
end
section
namespace Go.SL
section
variable {P:Program} {own:List CA} {n:Nat} {env:Env} {o:Oper}
theorem N7{t:TypeId}{x:Operand}{k:Nat}{base:Option Addr}{cs:List Value}{v u z y:Value} [ty:dR P t 4](ho:o.op= .load t x)(hx:ev env x=some (Rb base k))(m:Ds own base cs)(hv:cs[k]?=some v)(hu:cs[k+1]?=some u)(hz:cs[k+2]?=some z)(hy:cs[k+3]?=some y):DG P own n o env (.agg ⟨[v,u,z,y]⟩):=
  I5 (vs:= [v,u,z,y]) ho hx (Nat.succ_pos 3) rfl fun j w hj=>by
    match j,hj with
    |0,hj=>simp at hj;subst hj;exact hv
    |1,hj=>simp at hj;subst hj;exact hu
    |2,hj=>simp at hj;subst hj;exact hz
    |3,hj=>simp at hj;subst hj;exact hy
theorem Zi{t ty e:TypeId}{i:TypeInfo}{z:Value}{K:CA}{base yb:Option Addr}{len m mc:Nat}{cs news:List Value}{X:List CA}{w:World}
    (g1:P.underlying t=some (.slice e)) (g2:P.info? e=some i) (g3:i.zero=some z) (g4:z.cells.size=i.size) (hs:Sat ([K]++X) w) (sb:Sl K base cs) (mm:Sl K yb news)
    (Jt:cs.length=len*i.size) (Gt:news.length=m*i.size) (GJ:0<i.size) (FJ:(len+m)*i.bytes≤35184372088832) (hlen:len+m≤35184372088832):
    ∃h' D6 FA w',(Builtin.append_ #[t,t] ty #[.slice base len len,.slice yb m mc]).run P w= .ok (.slice D6 (len+m) FA) w'/\Ds [h',K] D6 (cs++news)/\Sat (h'::([K]++X)) w':=by
  have hbase:∀(b:Option Addr) (l:List Value) (k:Nat),Sl K b l->l.length=k*i.size->0<k->∃bb off,b=some ⟨bb,off,none⟩/\∀j v,l[j]?=some v->w.cell? ((⟨bb,off,none⟩:Addr).add j)=some v:=by
    intro b l k sl hl hk;have hp:0<l.length:=by rw [hl];exact Nat.mul_pos hk GJ
    have mi:Ds [K] b l:=⟨K,by simp,sl⟩;obtain⟨a,e1,e2, -⟩:=mi.cell hs (List.getElem?_eq_getElem hp);obtain⟨bb,off,sp⟩:=a;simp only at e2
    subst e2;refine⟨bb,off,e1,fun j v hj=> ?_⟩;obtain⟨a',e3,e4,e5⟩:=mi.cell hs hj;rw [e1] at e3;cases e3
    rw [Es];exact e5
  have fin:∀(Yl:List Value) (A z0:Array Value),A=Yl.toArray->Ds [CV w.heap.size (.cells (A++z0) e (0,0)),K] (some ⟨w.heap.size,0,none⟩) Yl:=fun Yl A z0 hA=>
    ⟨_,List.mem_cons_self ..,⟨fun k v hk=>⟨_,_,_,_,rfl,rfl,Dq _ _,by
      subst hA;have E6:k<Yl.length:=(List.getElem?_eq_some_iff.1 hk).1;rw [Nat.zero_add,Array.getElem?_append_left (by simpa using E6)];rw [<-hk];simp⟩⟩⟩
  have sat:∀(ob:Array Value),Sat (CV w.heap.size (.cells ob e (0,0))::([K]++X)) {w.drew with heap:=w.heap.push (.cells ob e (0,0))}:=fun ob=>EN (w:=w.drew) (hs.heap rfl rfl rfl) _ (fun _=>by simp [Pt])
  rcases Nat.eq_zero_or_pos m with hm|hm
  · subst hm;have ep:news= []:=List.length_eq_zero_iff.1 Ab;subst ep;refine⟨emp,base,len,w,IC w g1 g2 (Nat.le_refl len),⟨K,by simp,by rw [List.append_nil];exact sb⟩,?_⟩;exact⟨fun h hh=>by
        rcases List.mem_cons.1 hh with rfl|hh
        · intro b o e;cases e
        · exact hs.le h hh,List.pairwise_cons.2 ⟨fun _ _ _ _ _ e _=>(by cases e),hs.dj⟩⟩
  · obtain⟨b2,bV,rfl,Kr⟩:=hbase yb news m mm Gt hm;rcases Nat.eq_zero_or_pos len with kQ|kQ
    · subst kQ;have hc0:cs= []:=List.length_eq_zero_iff.1 Ab;subst hc0;rcases base with _|⟨bb,off,sp⟩
      · have FE:=run_append_nil (P:=P) w t ty e i z g1 g2 g3 ⟨b2,bV,none⟩ m mc news Gt Kr hm Ab (by rw [Nat.zero_add] at FJ;omega);rw [Nat.zero_add];exact⟨_,_,_,_,FE,fin news _ _ rfl,sat _⟩
      · have NP:=nextslicecap_le (need:=0+m) (old:=0) Ab;have FE:=run_append_grow (P:=P) w t ty e i z g1 g2 g3 ⟨bb,off,sp⟩ 0 0 [] Am (fun j v hj=>by simp at hj) ⟨b2,bV,none⟩ m mc news Gt Kr Ab Ab (by
          have:Builtin.nextslicecap (0+m) 0*i.bytes≤2*(0+m)*i.bytes:=Nat.mul_le_mul_right _ NP;rw [Nat.mul_assoc] at this
          omega)
        exact⟨_,_,_,_,FE,fin ([]++news) _ _ Am,sat _⟩
    · obtain⟨bb,off,rfl,hold⟩:=hbase base cs len sb Jt kQ;have NP:=nextslicecap_le (need:=len+m) (old:=len) Ab;have FE:=run_append_grow (P:=P) w t ty e i z g1 g2 g3 ⟨bb,off,none⟩ len len cs Jt hold ⟨b2,bV,none⟩ m mc news Gt Kr Ab Ab (by
        have:Builtin.nextslicecap (len+m) len*i.bytes≤2*(len+m)*i.bytes:=Nat.mul_le_mul_right _ NP;rw [Nat.mul_assoc] at this
        omega)
      exact⟨_,_,_,_,FE,fin (cs++news) _ _ Am,sat _⟩
theorem Vz{t e:TypeId}{sz bytes:Nat}{c:Call}{x y:Operand}{K:CA}{base yb:Option Addr}{len m mc:Nat}{cs news:List Value} [g:NI P t e sz bytes]
    (ho:o.op= .call c) (hc:c.callee= .builtin .append) (Jc:c.args= #[x,y]) (FD:c.argTypes= #[t,t])
    (hx:ev env x=some (.slice base len len)) (hy:ev env y=some (.slice yb m mc)) (sb:Sl K base cs) (mm:Sl K yb news)
    (Jt:cs.length=len*sz) (Gt:news.length=m*sz) (GJ:0<sz) (FJ:(len+m)*bytes≤35184372088832) (hlen:len+m≤35184372088832):
    Et P [K] n o env fun v own'=>∃h' D6 FA,v= .slice D6 (len+m) FA/\own'= [h',K]/\Ds [h',K] D6 (cs++news):=by
  refine⟨by rw [ho];rfl,fun A w X hA hs=> ?_⟩;obtain⟨i,z,g1,g2,g3,g4,g5,g6⟩:=g.all;subst g5;subst g6;obtain⟨h',D6,FA,w',FE,Yw,s3⟩:=Zi (P:=P) (ty:=o.type) (mc:=mc) g1 g2 g3 g4 hs sb mm Jt Gt GJ FJ hlen;refine⟨w',.inl ⟨.slice D6 (len+m) FA,[h',K],?_,by simpa using s3,h',D6,FA,rfl,rfl,Yw⟩⟩;simp [execOp,ho,resolve,hc,Jc,FD,invoke,builtin,hA.eval hx,hA.eval hy,FE]
end
section
variable {P:Program} {r:Option Nat} {F:CA} {n:Nat} {Q:DD} {env:Env} {own rest hs Dk:List CA} {ds:List Deferred} {all:Array Oper} {l:List Oper} {o:Oper} {s:List Sg} {an:An} {ml:ML}
theorem V6{cb:Bool}{m:Nat}{t e:TypeId}{sz bytes:Nat}{cl:Call}{x y:Operand}{K:CA}{base yb:Option Addr}{len mm mc d:Nat}{cs news:List Value} [g:NI P t e sz bytes]
    (hi:all[m]?=some o) (hd:o.dst=some d) (hg:C6 all env o=some true)
    (ho:o.op= .call cl) (hc:cl.callee= .builtin .append) (Jc:cl.args= #[x,y]) (FD:cl.argTypes= #[t,t])
    (hx:ev env x=some (.slice base len len)) (hy:ev env y=some (.slice yb mm mc)) (sb:Sl K base cs) (sa:Sl K yb news) [tk:Dx own [K] rest] {GB:List CA} [tp:Dx rest Dk GB]
    (Jt:cs.length=len*sz) (Gt:news.length=mm*sz) (GJ:0<sz) (FJ:(len+mm)*bytes≤35184372088832) (hlen:len+mm≤35184372088832)
    (h:∀h' D6 FA,Ds [h',K] D6 (cs++news)->D0 P r F n all Dk Q ds s ((d,.slice D6 (len+mm) FA)::env) (h'::K::rest) an ml):D0 P r F n all Dk Q ds (.h cb m::s) env own an ml:=
  OX hi hd hg (Vz ho hc Jc FD hx hy sb sa Jt Gt GJ FJ hlen) (fun _ v own' hR=>by
    obtain⟨h',b',c',rfl,rfl,HS⟩:=hR;exact⟨[h'],List.Perm.swap _ _ _⟩) (fun _=> .inl ⟨GB,tp.perm⟩) fun v own' hR=>by
    obtain⟨h',b',c',rfl,rfl,HS⟩:=hR;exact⟨_,rfl,h h' b' c' HS⟩
theorem Lu{S:Type}(E:S->Env)(O:S->List CA)(I:S->Prop)(μ:S->Nat){c:Code}(s0:S) [t:Dx own (O s0) rest]
    (he:Sub (E s0) env) (hI:I s0)
    (round:∀s,I s->DI P r F n c (Re (fun env' own' ay=>own'.Pairwise Eo->ay=ds/\∃s',(Sub (E s') env'/\∀w,Sat (F::own') w->Sat (F::O s') w)/\I s'/\μ s'<μ s) Q) (E s) (O s) ds):
    DI P r F n (.loop c) Q env own ds:=by
  refine C4 E O I μ s0 he hI fun s hs=> ?_
  have h:=round s hs;intro a w ha hd hs';refine wpIn_mono (h a w ha hd hs') fun e a' w' ⟨he,env',own',h1,h2,h3⟩=>⟨he,env',own',h1,h2,?_⟩
  cases e with
  |normal=>exact h3 h2.tail.dj
  |_=>exact h3
theorem YL{own:List CA}{h k:CA}{rest:List CA}(d:own.Pairwise Eo) [t:Dx own [h,k] rest]:Eo h k:=by
  have:=(t.perm.pairwise_iff (fun d=>Eo.symm d)).1 d;exact(List.pairwise_cons.1 this).1 k Am
theorem R9{E:Env}{O:List CA}{h k:CA} [t:Dx own (h::k::O) rest](hs:Sub E env):Sub E env/\∀w,Sat (F::own) w->Sat (F::join h k::O) w:=
  ⟨hs,fun w s=>by
    have s2:Sat ([h,k]++(F::O)) w:=((s.perm (t.perm.cons F)).sub (hs':=F::h::k::O) (List.Sublist.cons_cons F (List.sublist_append_left (h::k::O) rest))).perm (by
      refine(List.Perm.swap _ _ _).trans ((List.Perm.swap _ _ _).cons h))
    have s3:=s2.Da;have e:Da [h,k]=join h k:=by
      funext x
      simp only [Da,join,emp]
      split <;>rename_i q
      · rfl
      · cases k x <;>rfl
    rw [e] at s3
    exact s3.swap⟩
end
def diff(K' K:CA):CA:=fun x=>match K x with|some _=>none|none=>K' x
theorem M4{K K':CA}{X:List CA}{w:World}(h:hle K K')(s:Sat (K'::X) w):Sat (K::diff K' K::X) w:=by
  obtain⟨d1,d2⟩:=List.pairwise_cons.1 s.dj;have hd:hle (diff K' K) K':=fun b o e=>by
    unfold diff at e;split at e
    · cases e
    · exact e
  have kU:hle K' (wh w):=s.le K' (List.mem_cons_self ..);refine⟨fun k hk=> ?_,List.pairwise_cons.2 ⟨fun k hk=> ?_,List.pairwise_cons.2 ⟨fun k hk b o o' x y=>d1 k hk b o o' (hd b o x) y,d2⟩⟩⟩
  · rcases List.mem_cons.1 hk with rfl|hk
    · exact h.trans kU
    · rcases List.mem_cons.1 hk with rfl|hk
      · exact hd.trans kU
      · exact s.le k (List.mem_cons_of_mem _ hk)
  · rcases List.mem_cons.1 hk with rfl|hk
    · intro b o o' x y;simp only [diff,x] at y;cases y
    · exact fun b o o' x y=>d1 k hk b o o' (h b o x) y
theorem VC{K K' K2:CA}(h1:hle K K2)(h2:hle (diff K' K) K2)(h:hle K K'):hle K' K2:=fun b o e=>by
  cases hk:K b with
  | some o'=>
    have:=h b o' hk;rw [e] at this;cases this
    exact h1 b _ hk
  |none=>exact h2 b o (by simp only [diff,hk];exact e)
theorem km{P:Program}{f:FuncId}{args:List Value}{K:CA}{R:Ending->CA->List CA->Prop}
    (h:T P f args [K] fun e o=>∃K' rest,o=K'::rest/\hle K K'/\R e K' rest):T P f args [K] fun e o=>∃Kn rest K',o=K::Kn::rest/\(∀K2,hle K K2->hle Kn K2->hle K' K2)/\R e K' rest:=by
  intro w X s;refine(h w X s).mono ?_;rintro e w' ⟨o,s2,K',rest,rfl,hK,hR⟩;exact⟨K::diff K' K::rest,by simpa using M4 hK s2,diff K' K,rest,K',rfl,fun K2 h1 h2=>VC h1 h2 hK,hR⟩
theorem kj{P:Program}{f:FuncId}{args:List Value}{K K2:CA}{Q:Ending->CA->Prop}(hq:∀e A B,hle A B->Q e A->Q e B)
    (h:T P f args [K] fun e o=>∃K',o= [K']/\hle K K'/\Q e K') (hk:hle K K2):T P f args [K2] fun e o=>∃K',o= [K']/\hle K2 K'/\Q e K':=by
  intro w X s;have s1:Sat ([K]++(diff K2 K::X)) w:=by simpa using M4 hk (by simpa using s)
  refine(h w (diff K2 K::X) s1).mono ?_;rintro e w' ⟨o,s2,K',rfl,hK,hQ⟩;have s3:Sat ([K',diff K2 K]++X) w':=by simpa using s2
  have dj:Eo K' (diff K2 K):=(List.pairwise_cons.1 s3.dj).1 _ Am;have l1:hle K' (Da [K',diff K2 K]):=Fe (List.pairwise_append.1 s3.dj).1 Am;have l2:hle (diff K2 K) (Da [K',diff K2 K]):=Fe (List.pairwise_append.1 s3.dj).1 Am;refine⟨[Da [K',diff K2 K]],by simpa using s3.Da,_,rfl,fun b o e=> ?_,hq _ _ _ l1 hQ⟩;cases hb:K b with
  | some o'=>
    have:=hk b o' hb;rw [e] at this;cases this
    exact l1 b _ (hK b _ hb)
  |none=>exact l2 b o (by simp only [diff,hb];exact e)
section
variable {own rest:List CA} {F:CA} {env:Env}
theorem Mv{E:Env}{O:List CA}{h g k:CA} [t:Dx own (h::g::k::O) rest](hs:Sub E env):Sub E env/\∀w,Sat (F::own) w->Sat (F::join h (join g k)::O) w:=
  ⟨hs,fun w s=>by
    have s2:Sat ([h,g,k]++(F::O)) w:=((s.perm (t.perm.cons F)).sub (hs':=F::h::g::k::O) (List.Sublist.cons_cons F (List.sublist_append_left (h::g::k::O) rest))).perm (by
      exact(List.perm_append_comm (l₁:= [F]) (l₂:= [h,g,k])).append_right O)
    have s3:=s2.Da;have e:Da [h,g,k]=join h (join g k):=by
      funext x
      simp only [Da,join,emp]
      split <;>rename_i q
      · rfl
      · split <;>rename_i q2
        · rfl
        · cases k x <;>rfl
    rw [e] at s3
    exact s3.swap⟩
theorem dF{h g k:CA}(d:own.Pairwise Eo) [t:Dx own [h,g,k] rest]:Eo h g/\Eo h k/\Eo g k:=by
  have d2:=(t.perm.pairwise_iff (fun d=>Eo.symm d)).1 d;obtain⟨d3,d4⟩:=List.pairwise_cons.1 d2;exact⟨d3 g Am,d3 k Am,(List.pairwise_cons.1 d4).1 k Am⟩
end
end Go.SL
end
