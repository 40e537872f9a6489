
import Derived.Test.YtcnmnmjmpocepaaGreatDoorU07
import Derived.Laws.Append
import Derived.Laws.CopyRow
import Derived.Below
import Derived.Laws.AppendOwn
set_option linter.unusedVariables false
set_option linter.unusedSimpArgs false
set_option linter.unusedSectionVars false
set_option maxRecDepth 100000
set_option maxHeartbeats 16000000
section
namespace Go.SL
def Fz:List MapEntry->Int->Option Value
  | [],_=>none
  | e::es,z=>match e.key with
    | .int _ a=>if z=a then some e.val else Fz es z
    |_=>none
def H3(k:IntKind)(es:List MapEntry):Prop:=∀e∈es,∃a,e.key= .int k a
theorem H7{k:IntKind}{z:Int}:∀ {es:List MapEntry} {i:Nat},H3 k es->
    (Fz es z=none/\Instr.findNow (.int k) (.int k z) es i=some none)∨∃v j e,Fz es z=some v/\Instr.findNow (.int k) (.int k z) es i=some (some (i+j,v))/\es[j]?=some e/\e.key= .int k z/\
      ∀u,∀y,Fz (es.modify j fun e=>{e with key:= .int k z,val:=u}) y=if y=z then some u else Fz es y
  | [],i,_=> .inl ⟨rfl,rfl⟩
  | e ::es,i,h=>by
    obtain⟨a,ha⟩:=h e (List.mem_cons_self ..);have h2:H3 k es:=fun x hx=>h x (List.mem_cons_of_mem _ hx)
    by_cases hz:z=a
    · subst hz;refine .inr ⟨e.val,0,e,by simp [Fz,ha],by simp [Instr.findNow,ha,Instr.sameNow],rfl,ha,fun u y=> ?_⟩;simp only [List.modify_zero_cons,Fz,ha]
      split <;>rfl
    · have hb:(z ==a)=false:=by simpa using hz
      rcases H7 (z:=z) (i:=i+1) h2 with ⟨g1,g2⟩|⟨v,j,e',g1,g2,g3,g4,g5⟩
      · exact .inl ⟨by simp [Fz,ha,hz,g1],by simp [Instr.findNow,ha,Instr.sameNow,hb,g2]⟩
      · refine .inr ⟨v,j+1,e',by simp [Fz,ha,hz,g1],by simp [Instr.findNow,ha,Instr.sameNow,hb,g2];omega,by simpa using g3,g4,fun u y=> ?_⟩;simp only [List.modify_succ_cons,Fz,ha,g5];by_cases hy:y=a
        · subst hy;rw [if_pos rfl,if_pos rfl,if_neg (Ne.symm hz)]
        · rw [if_neg hy,if_neg hy]
theorem N6{k:IntKind}{z:Int}{v:Value}{n:Nat}:∀ {es:List MapEntry},H3 k es->Fz es z=none->∀y,Fz (es++ [⟨.int k z,v,n⟩]) y=if y=z then some v else Fz es y
  | [],_,_,y=>by simp [Fz]
  | e::es,h,hn,y=>by
    obtain⟨a,ha⟩:=h e (List.mem_cons_self ..);have h2:H3 k es:=fun x hx=>h x (List.mem_cons_of_mem _ hx)
    have hz:z≠a:=fun e2=>by simp [Fz,ha,e2] at hn
    have Rq:Fz es z=none:=by simpa [Fz,ha,hz] using hn
    simp only [List.cons_append,Fz,ha,N6 h2 Rq];by_cases hy:y=a
    · subst hy;rw [if_pos rfl,if_pos rfl,if_neg (Ne.symm hz)]
    · rw [if_neg hy,if_neg hy]
structure MP(h:B6)(b:Nat)(k:IntKind)(f:Int->Option Value):Prop where
  shape:∃es JH,h=Co b (.map es JH)/\H3 k es.toList/\∀z,Fz es.toList z=f z
class dI (own:List B6) (h:B6):Prop where
  mem:h∈own
instance dI.head{h:B6}{r:List B6}:dI (h::r) h:=⟨List.mem_cons_self ..⟩
instance (priority:=low) dI.tail{h k:B6}{r:List B6} [t:dI r h]:dI (k::r) h:=⟨List.mem_cons_of_mem _ t.mem⟩
theorem MP.nil{b:Nat}{k:IntKind}:MP (Co b (.map #[] 0)) b k (fun _=>none):=⟨#[],0,rfl,fun e he=>by simp at he,fun z=>rfl⟩
section
variable {P:Program} {own:List B6} {n:Nat} {env:Env} {o:Oper}
theorem Gv{t:TypeId}{k:IntKind}{v:Value}(h:P.underlying t=some (.int k))(e:Bool)(w:World):(Instr.checkKey e 10000 t v).run P w= .ok () w:=by
  rw [show(10000:Nat)=9999+1 from rfl,Instr.checkKey];simp [CL h]
theorem HW{t:TypeId}{k:IntKind}{z:Int}{es:List MapEntry}{r:Option (Nat×Value)}(h:P.underlying t=some (.int k))(hf:Instr.findNow (.int k) (.int k z) es 0=some r)(w:World):(Instr.findKey t (.int k z) es).run P w= .ok r w:=by
  simp [Instr.findKey,CL h,hf]
theorem Dx{t kt et:TypeId}{x ix:Operand}{ok:Bool}{k:IntKind}{z:Int}{b:Nat}{h:B6}{f:Int->Option Value}{v zm zk zv:Value}{im ik iv:TypeInfo}{dv:TypeDesc} [h1:Ty P t (.map kt et) zm im] [h2:Ty P kt (.int k) zk ik] [h3:Ty P et dv zv iv]
    (mp:MP h b k f) [hi:dI own h] (ho:o.op= .lookup t x ix ok) (hx:ev env x=some (.map (some b))) (Jy:ev env ix=some (.int k z)) (hf:f z=some v):Dc P own n o env (if ok then .tuple #[v,.bool true] else v):=by
  obtain⟨es,JH,rfl,hk,hl⟩:=mp.shape;refine⟨by rw [ho];rfl,fun a w X ha s=>⟨w,s,.inl ?_⟩⟩;have hb:w.heap[b]?=some (.map es JH):=s.at (List.mem_append.2 (.inl hi.mem)) (CT _ _);rcases H7 (z:=z) (i:=0) hk with ⟨g1,g2⟩|⟨v',j,e,g1,g2, -⟩
  · rw [hl,hf] at g1;cases g1
  · rw [hl,hf] at g1;cases g1
    cases ok <;>simp [execOp,ho,ha.eval hx,ha.eval Jy,Instr.lookup,CL h1.u,getObj,Sem.run,hb,Gv h2.u,HW h2.u g2]
theorem Mf{t kt et:TypeId}{x ix:Operand}{ok:Bool}{k:IntKind}{z:Int}{b:Nat}{h:B6}{f:Int->Option Value}{zm zk zv:Value}{im ik iv:TypeInfo}{dv:TypeDesc} [h1:Ty P t (.map kt et) zm im] [h2:Ty P kt (.int k) zk ik] [h3:Ty P et dv zv iv]
    (mp:MP h b k f) [hi:dI own h] (ho:o.op= .lookup t x ix ok) (hx:ev env x=some (.map (some b))) (Jy:ev env ix=some (.int k z)) (hf:f z=none):Dc P own n o env (if ok then .tuple #[zv,.bool false] else zv):=by
  obtain⟨es,JH,rfl,hk,hl⟩:=mp.shape;refine⟨by rw [ho];rfl,fun a w X ha s=>⟨w,s,.inl ?_⟩⟩;have hb:w.heap[b]?=some (.map es JH):=s.at (List.mem_append.2 (.inl hi.mem)) (CT _ _);rcases H7 (z:=z) (i:=0) hk with ⟨g1,g2⟩|⟨v',j,e,g1,g2, -⟩
  · cases ok <;>simp [execOp,ho,ha.eval hx,ha.eval Jy,Instr.lookup,CL h1.u,getObj,Sem.run,hb,Gv h2.u,HW h2.u g2,h3.z]
  · rw [hl,hf] at g1;cases g1
theorem Oh{t kt et:TypeId}{x ix y:Operand}{k:IntKind}{z:Int}{b:Nat}{h:B6}{f:Int->Option Value}{v zm zk:Value}{im ik:TypeInfo} [h1:Ty P t (.map kt et) zm im] [h2:Ty P kt (.int k) zk ik]
    (mp:MP h b k f) (ho:o.op= .mapUpdate t x ix y) (hx:ev env x=some (.map (some b))) (Jy:ev env ix=some (.int k z)) (hy:ev env y=some v):
    DS P [h] n o env fun _ own'=>∃h',own'= [h']/\MP h' b k (fun q=>if q=z then some v else f q):=by
  obtain⟨es,JH,rfl,hk,hl⟩:=mp.shape;refine⟨by rw [ho];rfl,fun a w X ha s=> ?_⟩;have s1:Sat (Co b (.map es JH)::X) w:=by simpa using s
  have hb:w.heap[b]?=some (.map es JH):=s1.at (List.mem_cons_self ..) (CT _ _);have hset:∀ob:Obj,(∀off,Ou ob off=false)->∃w',(setObj b ob).run P w= .ok () w'/\Sat (Co b ob::X) w':=fun ob hz=>by
    refine⟨{w with heap:=w.heap.set! b ob},by simp [setObj,Sem.run,hb],?_⟩;have Em:b<w.heap.size:=(Array.getElem?_eq_some_iff.1 hb).1;refine s1.put (by simp [Em]) rfl rfl (fun q hq=> ?_) (fun off=>by rw [hz];rfl);simp [Ne.symm hq]
  rcases H7 (z:=z) (i:=0) hk with ⟨g1,g2⟩|⟨v',j,e,g1,g2,g3,g4,g5⟩
  · obtain⟨w',hr,s'⟩:=hset (.map (es.push ⟨.int k z,v,JH⟩) (JH+1)) (fun _=>rfl);refine⟨w',.inr (.inl ⟨[Co b (.map (es.push ⟨.int k z,v,JH⟩) (JH+1))],?_,by simpa using s',_,rfl,⟨_,_,rfl,fun e he=> ?_,fun y=> ?_⟩⟩)⟩
    · simp [execOp,ho,ha.eval hx,ha.eval Jy,ha.eval hy,Instr.mapUpdate,CL h1.u,getObj,Sem.run,hb,Gv h2.u,HW h2.u g2,hr]
    · rw [Array.toList_push,List.mem_append] at he
      rcases he with he|he
      · exact hk e he
      · simp at he;subst he;exact⟨z,rfl⟩
    · rw [Array.toList_push,N6 hk g1,hl]
  · obtain⟨w',hr,s'⟩:=hset (.map (es.modify j fun e=>{e with key:= .int k z,val:=v}) JH) (fun _=>rfl);refine⟨w',.inr (.inl ⟨[Co b (.map (es.modify j fun e=>{e with key:= .int k z,val:=v}) JH)],?_,by simpa using s',_,rfl,⟨_,_,rfl,fun e he=> ?_,fun y=> ?_⟩⟩)⟩
    · have TB:(Instr.keyThatStays (.int k z) (.int k z)).run P w= .ok (.int k z) w:=by simp [Instr.keyThatStays,Instr.sameBits]
      have g3':es[j]?=some e:=by simpa using g3
      simp [execOp,ho,ha.eval hx,ha.eval Jy,ha.eval hy,Instr.mapUpdate,CL h1.u,getObj,Sem.run,hb,Gv h2.u,HW h2.u g2,g3',g4,TB,hr]
    · rw [Array.toList_modify] at he
      obtain⟨i,hi,rfl⟩:=List.mem_iff_getElem.1 he;rw [List.getElem_modify]
      split
      · exact⟨z,rfl⟩
      · exact hk _ (List.getElem_mem _)
    · rw [Array.toList_modify,g5,hl]
end
section
variable {P:Program} {r:Option Nat} {F:B6} {n:Nat} {Q:C4} {env:Env} {own rest hs CR:List B6} {ds:List Deferred} {all:Array Oper} {l:List Oper} {o:Oper}
theorem V8{t kt et:TypeId}{x ix y:Operand}{k:IntKind}{z:Int}{b:Nat}{h:B6}{f:Int->Option Value}{v zm zk:Value}{im ik:TypeInfo} [h1:Ty P t (.map kt et) zm im] [h2:Ty P kt (.int k) zk ik]
    (hd:o.dst=none) (hg:Cy all env o=some true) (ho:o.op= .mapUpdate t x ix y) (hx:ev env x=some (.map (some b))) (Jy:ev env ix=some (.int k z)) (hy:ev env y=some v) (mp:MP h b k f) [tk:C1 own [h] rest]
    (next:∀h',MP h' b k (fun q=>if q=z then some v else f q)->C6 false P r F n all l Q env (h'::rest) ds):C6 false P r F n all (o::l) Q env own ds:=
  Na hd hg (Oh mp ho hx Jy hy) fun v' own' hR=>by
    obtain⟨h',rfl,ig⟩:=hR;exact⟨_,rfl,next h' ig⟩
theorem KA{t:TypeId}{d:Nat}(hd:o.dst=some d)(hn:Nat.blt d n=true)(hg:Cy all env o=some true)(ho:o.op= .makeMap t none)
    (next:∀b,C6 false P r F n all l Q ((d,.map (some b))::env) (Co b (.map #[] 0)::own) ds):C6 false P r F n all (o::l) Q env own ds:=by
  refine IG hd hn hg (by rw [ho];rfl) fun A w hA hs=> ?_
  refine⟨.map (some w.heap.size),{w with heap:=w.heap.push (.map #[] 0)},Co w.heap.size (.map #[] 0)::own,?_,(D4 hs _ (fun _=>rfl)).swap,next _⟩;simp [execOp,ho,Instr.makeMap,newObj,Sem.run]
end
end Go.SL
end
section
namespace Go.SL
section
variable {P:Program} {r:Option Nat} {F:B6} {n:Nat} {Q:C4} {env:Env} {own rest hs CR:List B6} {ds:List Deferred} {all:Array Oper} {l:List Oper} {o:Oper}
theorem Qq{t e:TypeId}{bytes m d:Nat}{x y:Operand}{zv:Value}{de:TypeDesc}{ti:TypeInfo} [g:M4 P t e 1 bytes] [z:Ty P e de zv ti]
    (hd:o.dst=some d) (hn:Nat.blt d n=true) (hg:Cy all env o=some true) (ho:o.op= .makeSlice t x y) (hx:ev env x=some (.int .i64 (m:Int))) (hy:ev env y=some (.int .i64 (m:Int)))
    (hz:D9 zv=some [zv]) (Fq:m*bytes≤70368744177664) (hm:m≤70368744177664)
    (next:∀b h,OS h (some ⟨b,0,none⟩) m m e 1 (List.replicate m zv)->C6 false P r F n all l Q ((d,.slice (some ⟨b,0,none⟩) m m)::env) (h::own) ds):C6 false P r F n all (o::l) Q env own ds:=by
  refine IG hd hn hg (by rw [ho];rfl) fun A w hA hs=> ?_
  obtain⟨i,z',g1,g2,g3,g4,g5,g6⟩:=g.all;subst g6;have wl:IntKind.i64.wrap (m:Int)=m:=C8 Ab Ab;have hb:¬(281474976710656<(i.bytes:Int)*m):=by
    have:(i.bytes:Int)*m=((m*i.bytes:Nat):Int):=by rw [Int.natCast_mul,Int.mul_comm]
    omega
  have hn':¬((m:Int)<0):=by omega
  have hroom':∀w:World,(askRoom (m*i.bytes)).run P w= .ok () w:=fun w=>by unfold askRoom;split <;>simp
  have P0:zv.cells= #[zv]:=EB hz;have hzz:((Array.range m).map fun x=>zv.cells[x%zv.cells.size]!)=⟨List.replicate m zv⟩:=by
    rw [P0];apply Array.ext';apply List.ext_getElem?;intro j;by_cases hj:j<m
    · simp [hj,Nat.mod_one]
    · simp [hj]
  refine⟨.slice (some ⟨w.heap.size,0,none⟩) m m,{w with heap:=w.heap.push (.cells ⟨List.replicate m zv⟩ e (0,0))},Co w.heap.size (.cells ⟨List.replicate m zv⟩ e (0,0))::own,?_,(D4 hs _ (fun _=>by simp [Ou])).swap,next _ _ (OS.Co Ak)⟩;have hzn:∀w,(zeroValue e).run P w= .ok zv w:=fun w=>z.z w
  by_cases h0:m=0
  · subst h0;simp [execOp,ho,hA.eval hx,hA.eval hy,Instr.makeSlice,CL g1,asInt,asIntOf,HE g2,DO g2,g5,newRow,askRoom,IntKind.wrap,IntKind.bits,IntKind.signed,show(Array.range 0).map (fun(_:Nat)=>(default:Value))=⟨[]⟩ by simp]
  · simp [execOp,ho,hA.eval hx,hA.eval hy,Instr.makeSlice,CL g1,asInt,asIntOf,HE g2,wl,hb,hn',hroom',DO g2,g5,h0,newRow,hzn,hzz]
end
end Go.SL
end
section
namespace Go.SL
section
variable {P:Program} {r:Option Nat} {F:B6} {n:Nat} {Q:C4} {env:Env} {own rest hs CR:List B6} {ds:List Deferred} {all:Array Oper} {l:List Oper} {o:Oper}
theorem XJ {t e:TypeId}{bytes len cap i:Nat}{c:Call}{x:Operand}{base:Option Addr}{h:B6}{zv:Value}{de:TypeDesc}{ti:TypeInfo}{cs:List Value} [g:M4 P t e 1 bytes] [z:Ty P e de zv ti]
    (hd:o.dst=none) (hg:Cy all env o=some true) (ho:o.op= .call c) (hc:c.callee= .builtin .clear) (Il:c.args= #[x]) (E5:c.argTypes= #[t]) (os:OS h base len cap e 1 cs)
    (hx:ev env x=some (.slice (sub base i cap 1) (len - i) (cap - i))) [tk:C1 own [h] rest] (hz:D9 zv=some [zv]) (h1:zv.oneCell'=true) (hi:i≤len)
    (next:∀h',OS h' base i cap e 1 (cs.take i)->C6 false P r F n all l Q env (h'::rest) ds):C6 false P r F n all (o::l) Q env own ds:=by
  have hl:=os.hlen;have hle:=os.hle;refine Na (hs:= [h]) (R:=fun _ own'=>∃h',own'= [h']/\OS h' base i cap e 1 (cs.take i)) hd hg ⟨by rw [ho];rfl,fun A w X hA s=> ?_⟩ (fun v own' hR=>by obtain⟨h',rfl,HT⟩:=hR;exact⟨_,rfl,next h' HT⟩);obtain⟨inf,z',g1,g2,g3,g4,g5,g6⟩:=g.all;rcases Nat.eq_or_lt_of_le hi with e0|Em
  · subst e0;refine⟨w,.inl ⟨.tuple #[],[h],?_,s,h,rfl,by rw [List.take_of_length_le Ab];exact os⟩⟩;rw [Nat.sub_self] at hx
    cases hb:sub base i cap 1 with
    |none=>rw [hb] at hx;simp [execOp,ho,resolve,hc,Il,E5,invoke,builtin,hA.eval hx,Builtin.clear_,CL g1]
    |some a=>rw [hb] at hx;simp [execOp,ho,resolve,hc,Il,E5,invoke,builtin,hA.eval hx,Builtin.clear_,CL g1]
  · rcases os.shape with ⟨-,h2, -⟩|⟨b,off,arr,hb,hh,GH,L2⟩
    · omega
    · subst hb;subst hh;have Je:sub (some (⟨b,off,none⟩:Addr)) i cap 1=some ⟨b,off+i,none⟩:=by
        unfold sub;rw [if_neg Ab];simp [DX]
      rw [Je] at hx
      have s1:Sat (Co b (.cells arr e (0,0))::X) w:=by simpa using s
      have hbw:w.heap[b]?=some (.cells arr e (0,0)):=s1.at (List.mem_cons_self ..) (CT _ _)
      let zs:List Value:=List.replicate (len - i) zv
      have FB:=run_storeCells_at P b (off+i) e zs 0 arr w hbw (by simp [zs];omega) (by intro v hv;rw [List.eq_of_mem_replicate hv];exact h1)
      let arr':Array Value:=(arr.toList.take (off+i+0)++zs++arr.toList.drop (off+i+0+zs.length)).toArray
      have P0:zv.cells= #[zv]:=EB hz;have hzz:(Builtin.zeroCells zv.cells (len - i)).toList=zs:=by
        rw [P0];apply List.ext_getElem?;intro j;simp only [Builtin.zeroCells,zs];by_cases hj:j<len - i
        · simp [hj,Nat.mod_one]
        · simp [hj]
      have hzn:∀w,(zeroValue e).run P w= .ok zv w:=fun w=>z.z w
      have E0:(execOp A.eval o).run P w= .ok (.value (.tuple #[])) (w.setRow b arr'):=by
        have h0:len - i≠0:=by omega
        obtain⟨q,hq⟩:∃q,len - i=q+1:=⟨len - i - 1,by omega⟩;rw [hq] at hx hzz
        simp [execOp,ho,resolve,hc,Il,E5,invoke,builtin,hA.eval hx,Builtin.clear_,CL g1,hzn,hzz,FB,arr']
      refine⟨w.setRow b arr',.inl ⟨.tuple #[],[Co b (.cells arr' e (0,0))],E0,?_,_,rfl,?_⟩⟩
      · have s2:=s1.put (setRow_heap w b _ arr' e (0,0) hbw) As As (fun k hk=>setRow_other w b k _ hk) (fun _=>rfl);simpa using s2
      · refine⟨by rw [List.length_take];omega,by omega,.inr ⟨b,off,arr',rfl,rfl,?_,fun j v hj=> ?_⟩⟩
        · have:arr'.size=arr.size:=by simp [arr',zs];omega
          rw [this];exact GH
        · rw [List.getElem?_take] at hj
          split at hj
          · rename_i hji
            have:=L2 j v hj;simp only [arr',Nat.add_zero,List.getElem?_toArray,List.append_assoc];rw [List.getElem?_append_left Aq,List.getElem?_take,if_pos Ab];simpa using this
          · cases hj
end
end Go.SL
end
section
namespace Go.SL
theorem Yt{P:Program}{n:Nat}{o:Oper}{env:Env}{t t2 e:TypeId}{c:Call}{x y:Operand}{base b2:Option Addr}{len cap n2 c2:Nat}{h k:B6}{cs src:List Value}{T:TypeId} [g:Ns P t e 1]
    (os:OS h base len cap T 1 cs) (sl:Sl k b2 src) (TA:src.length=n2) (hn:n2≤len) (hp:0<len) (h1:src.all (·.oneCell')=true)
    (ho:o.op= .call c) (hc:c.callee= .builtin .copy) (Il:c.args= #[x,y]) (E5:c.argTypes= #[t,t2]) (hx:ev env x=some (.slice base len cap)) (hy:ev env y=some (.slice b2 n2 c2)):
    DS P [h,k] n o env fun v own'=>v= .int .i64 (n2:Int)/\∃h',own'= [h',k]/\OS h' base len cap T 1 (src++cs.drop n2):=by
  refine⟨by rw [ho];rfl,fun a w X ha hs=> ?_⟩;have hl:=os.hlen;rcases os.shape with ⟨-,h2, -, -⟩|⟨b,off,arr,hb,hh,hsize,L2⟩
  · omega
  · subst hb;subst hh;have s1:Sat (Co b (.cells arr T (0,0))::k::X) w:=by simpa using hs
    have hb:w.heap[b]?=some (.cells arr T (0,0)):=s1.at (List.mem_cons_self ..) (CT _ _);have hle:=os.hle;have FB:=run_storeCells_at P b off T src 0 arr w hb Ab (by simpa using h1)
    let arr':Array Value:=(arr.toList.take (off+0)++src++arr.toList.drop (off+0+src.length)).toArray
    have hmin:Nat.min n2 len=n2:=Nat.min_eq_left hn;have hfc:(Builtin.firstCells 1 n2 (.slice b2 n2 c2)).run P w= .ok src.toArray w:=by
      rcases Nat.eq_zero_or_pos n2 with h0|hp2
      · subst h0;obtain rfl:src= []:=List.length_eq_zero_iff.1 TA;cases b2 with
        |none=>simp [Builtin.firstCells]
        |some q=>exact run_firstCells_some (P:=P) w 1 0 q 0 c2 [] rfl fun j v hj=>by cases hj
      · obtain⟨v0,lP⟩:∃v,src[0]?=some v:=⟨_,List.getElem?_eq_getElem Ab⟩;obtain⟨⟨bb,o2,sp⟩,arr2,T2,fz2,q1,q2,q3,q4⟩:=sl.cell 0 v0 lP;obtain rfl:sp=none:=q2;subst q1;refine run_firstCells_some (P:=P) w 1 n2 ⟨bb,o2,none⟩ n2 c2 src Ab fun j v hj=> ?_
        obtain⟨a',fJ,T3,ki,p1,p2,p3,p4⟩:=sl.cell j v hj;cases p1;have:=s1.at (List.mem_cons_of_mem _ (List.mem_cons_self ..)) p3;have e:Addr.add ⟨bb,o2,none⟩ j=⟨bb,o2+j,none⟩:=by simp [Addr.add]
        rw [e,Gf this];exact p4
    have E0:(execOp a.eval o).run P w= .ok (.value (.int .i64 (n2:Int))) (w.setRow b arr'):=by
      simp only [execOp,ho];simp [resolve,hc,Il,E5,invoke,builtin,Builtin.copy_,ha.eval hx,ha.eval hy,CL g.u,Builtin.lenOf,goInt,g.s];rw [hmin,hfc];simp only [Result.andThen];rw [FB]
    refine⟨w.setRow b arr',.inl ⟨_,[Co b (.cells arr' T (0,0)),k],E0,?_,rfl,_,rfl,?_⟩⟩
    · have s2:=s1.put (setRow_heap w b _ arr' T (0,0) hb) As As (fun k hk=>setRow_other w b k _ hk) (fun _=>rfl);simpa using s2
    · refine⟨by simp;omega,os.hle,.inr ⟨b,off,arr',rfl,rfl,?_,fun j v hj=> ?_⟩⟩
      · have:arr'.size=arr.size:=by simp [arr'];omega
        rw [this];exact hsize
      · simp only [arr',Nat.add_zero,List.getElem?_toArray];have e2:(arr.toList.take off).length=off:=by simp;omega
        rw [List.append_assoc,List.getElem?_append_right Ab,e2,show off+j - off=j by omega];by_cases h2:j<src.length
        · rw [List.getElem?_append_left h2] at hj ⊢;exact hj
        · rw [List.getElem?_append_right Ab,List.getElem?_drop] at hj ⊢
          have:=L2 _ v hj;rw [show off+(n2+(j - src.length))=off+src.length+(j - src.length) by omega] at this
          simpa using this
section
variable {P:Program} {r:Option Nat} {F:B6} {n:Nat} {Q:C4} {env:Env} {own rest hs CR:List B6} {ds:List Deferred} {all:Array Oper} {l:List Oper} {o:Oper}
theorem ZF{d:Nat}{t t2 e:TypeId}{c:Call}{x y:Operand}{base b2:Option Addr}{len cap n2 c2:Nat}{h k:B6}{cs src:List Value}{T:TypeId} [g:Ns P t e 1]
    (hd:o.dst=some d) (ag:Nat.blt d n=true) (hg:Cy all env o=some true) (ho:o.op= .call c) (hc:c.callee= .builtin .copy) (Il:c.args= #[x,y]) (E5:c.argTypes= #[t,t2]) (hx:ev env x=some (.slice base len cap)) (hy:ev env y=some (.slice b2 n2 c2))
    (os:OS h base len cap T 1 cs) (sl:Sl k b2 src) [tk:C1 own [h,k] rest] (TA:src.length=n2) (hn:n2≤len) (hp:0<len) (h1:src.all (·.oneCell')=true)
    (next:∀h',OS h' base len cap T 1 (src++cs.drop n2)->C6 false P r F n all l Q ((d,.int .i64 (n2:Int))::env) (h'::k::rest) ds):C6 false P r F n all (o::l) Q env own ds:=
  KB hd ag hg (Yt os sl TA hn hp h1 ho hc Il E5 hx hy) fun v' own' hR=>by
    obtain⟨rfl,h',rfl,HT⟩:=hR;exact⟨_,rfl,next h' HT⟩
end
end Go.SL
end
section
namespace Go.SL
section
variable {P:Program} {own:List B6} {n:Nat} {env:Env} {o:Oper}
theorem Uw{t kt et:TypeId}{x ix y:Operand}{k:IntKind}{z:Int}{b:Nat}{h:B6}{f:Int->Option Value}{v zm zk:Value}{im ik:TypeInfo} [h1:Ty P t (.map kt et) zm im] [h2:Ty P kt (.int k) zk ik]
    (mp:MP h b k f) (ho:o.op= .insert t x ix y) (hx:ev env x=some (.map (some b))) (Jy:ev env ix=some (.int k z)) (hy:ev env y=some v):
    DS P [h] n o env fun _ own'=>∃h',own'= [h']/\MP h' b k (fun q=>if q=z then some v else f q):=by
  obtain⟨-,g⟩:=Oh (P:=P) (n:=n) (env:=env) (t:=t) (kt:=kt) (et:=et) (o:={o with op:= .mapUpdate t x ix y}) mp rfl hx Jy hy;refine⟨by rw [ho];rfl,fun a w X ha s=> ?_⟩;have e:execOp a.eval o=execOp a.eval {o with op:= .mapUpdate t x ix y}:=by unfold execOp;rw [ho]
  rw [e];exact g a w X ha s
end
section
variable {P:Program} {r:Option Nat} {F:B6} {n:Nat} {Q:C4} {env:Env} {own rest hs CR:List B6} {ds:List Deferred} {all:Array Oper} {l:List Oper} {o:Oper}
theorem Wa{t kt et:TypeId}{x ix y:Operand}{k:IntKind}{z:Int}{b:Nat}{h:B6}{f:Int->Option Value}{v zm zk:Value}{im ik:TypeInfo} [h1:Ty P t (.map kt et) zm im] [h2:Ty P kt (.int k) zk ik]
    (hd:o.dst=none) (hg:Cy all env o=some true) (ho:o.op= .insert t x ix y) (hx:ev env x=some (.map (some b))) (Jy:ev env ix=some (.int k z)) (hy:ev env y=some v) (mp:MP h b k f) [tk:C1 own [h] rest]
    (next:∀h',MP h' b k (fun q=>if q=z then some v else f q)->C6 false P r F n all l Q env (h'::rest) ds):C6 false P r F n all (o::l) Q env own ds:=
  Na hd hg (Uw mp ho hx Jy hy) fun v' own' hR=>by
    obtain⟨h',rfl,ig⟩:=hR;exact⟨_,rfl,next h' ig⟩
end
end Go.SL
end
section
namespace Go.SL
theorem Y8{P:Program}{f:FuncId}{args:List Value}{own:List B6}{R:Ending->List B6->List B6->Prop}
    (h:T P f args own fun e o=>∃A N,o=N++A/\R e A N):T P f args own fun e o=>∃A N K,o=K::A/\(∀k∈N,hle k K)/\R e A N:=by
  intro w X s;refine(h w X s).mono ?_;rintro e w' ⟨o,s2,A,N,rfl,hR⟩;have s3:Sat (N++(A++X)) w':=by simpa using s2
  have d:N.Pairwise DM:=(List.pairwise_append.1 s3.dj).1;exact⟨CB N::A,by simpa using s3.CB,A,N,CB N,rfl,fun k hk=>DV d hk,hR⟩
theorem JO{P:Program}{r:Option Nat}{F:B6}{n:Nat}{c:Code}{Q:C4}{env:Env}{own rest:List B6}{ds:List Deferred}(hs:List B6) [t:C1 own hs rest]
    (h:∀K,(∀k∈hs,hle k K)->Db P r F n c Q env (K::rest) ds):Db P r F n c Q env own ds:=by
  intro a w ha MO s;have pp:(F::own).Perm (hs++(rest++ [F])):=(List.perm_append_comm (l₁:= [F]) (l₂:=own)).trans (by rw [<-List.append_assoc];exact t.perm.append_right [F]);have s2:Sat (hs++(rest++ [F])) w:=s.perm pp;have d:hs.Pairwise DM:=(List.pairwise_append.1 s2.dj).1;exact h (CB hs) (fun k hk=>DV d hk) a w ha MO (s2.CB.perm (by
    rw [<-List.cons_append];exact List.perm_append_comm (l₁:=CB hs::rest) (l₂:= [F])))
end Go.SL
end
section
namespace Go.SL
theorem IM{P:Program}{own:List B6}{n:Nat}{env:Env}{o:Oper}{x:Operand}{a:Addr}(ho:o.op= .nilCheck x)(hx:ev env x=some (.pointer (some a))):Dc P own n o env (.pointer (some a)):=
  De (by rw [ho];rfl) fun c w ha=>by simp [execOp,ho,ha.eval hx]
end Go.SL
end
section
namespace Go.SL
def bQ(P:Program)(f:FuncId)(first captured:List Value)(hs:List B6)(nx:Nat->B6->Option (List Value)->Prop):Prop:=
  ∀ (L:Nat) (J:Nat->B6->Prop) (Jd Jx:B6->Prop),
    (∀k H,J k H->(∃x,nx k H (some x)/\YT P L x H fun v H'=>(v= .bool true/\J (k+1) H')∨(v= .bool false/\Jx H'))∨(nx k H none/\Jd H))->
    ∀H,J 0 H->T P f (first++ [.func (.yield L) #[] #[]]++captured) (H::hs) fun e own'=>e= .returned (.tuple #[])/\∃H',own'=H'::hs/\(Jd H'∨Jx H')
theorem Oj{h:B6}{own:List B6}(d:(h::own).Pairwise DM):hle (CB own) (CB (h::own)):=
  Gh (KU (List.pairwise_cons.1 d).1)
section
variable {P:Program} {F:B6} {n:Nat} {Q:C4} {env:Env} {own rest hsI:List B6} {ds:List Deferred} {assign body:Code}
theorem NC{g:Operand}{ps:Array Tmp}{f:FuncId}{first captured:Array Value}{nx:Nat->B6->Option (List Value)->Prop} [he:Enters P f] [t:C1 own hsI rest]
    (J:Nat->List B6->Prop) (Jd:List B6->Prop) (Jx:Code->List B6->Prop)
    (hg:ev env g=some (.func (.func f) first captured)) (hI:bQ P f first.toList captured.toList hsI nx) (Vs:∀k H H' o,hle H H'->nx k H o->nx k H' o)
    (Zk:ps.toList.all (fun p=>Nat.blt p n)=true) (h0:J 0 rest)
    (KN:∀L k own1,J k own1->own1.Pairwise DM->(∃x,nx k (CB own1) (some x)/\x.length=ps.size/\∀F,∃JE,To ps.toList x env=some JE/\Db P (some L) F n assign (Qj (fun ID CN ax=>∀F2,Db P (some L) F2 n body (KY (J (k+1)) Jx) ID CN ax) fun _ _ _ _=>False) JE own1 [])∨(nx k (CB own1) none/\Jd own1))
    (Jz:∀D own1,Jd own1->∃CN,Ht own1 hsI=some CN/\Q .normal env (Co D (.deferred (some []))::CN) (mark D::ds))
    (Jv:∀D c own1,Jx c own1->∃CN,Ht own1 hsI=some CN/\Db P none F n c Q env (Co D (.deferred (some []))::CN) (mark D::ds)):
    Db P none F n (.rangeFunc g ps assign body) Q env own ds:=by
  have Jz:∀D own1,Jd own1->Q .normal env (Co D (.deferred (some []))::(own1++hsI)) (mark D::ds):=fun D own1 hJ=>by
    obtain⟨CN,e,h⟩:=Jz D own1 hJ;rw [Fk e] at h;exact h
  have Jv:∀D c own1,Jx c own1->Db P none F n c Q env (Co D (.deferred (some []))::(own1++hsI)) (mark D::ds):=fun D c own1 hJ=>by
    obtain⟨CN,e,h⟩:=Jv D c own1 hJ;rw [Fk e] at h;exact h
  intro a w ha hd hs;refine wpIn_rangeFunc fun fn _=> ?_
  let L:=w.heap.size+1
  let rc:Loop:={state:= .ready,pending:=none,fn,tmps:=a.tmps,params:=ps,assign,body,defers:=w.heap.size}
  let xv:Value:= .func (.yield L) #[] #[]
  let w1:=(w.alloc (.deferred (some []))).alloc (.loop rc)
  have LA:(resolve a.eval (rangeCall g L) 0).run P w1= .ok {target:= .fn (.func f) captured,args:=first++ #[xv]} w1:=by
    simp only [resolve,ha.eval hg,Deferred.ofValue,Sem.run_pure];simp [Act.eval,xv]
  have hinv:(invoke (.fn (.func f) captured) (first++ #[xv])).run P w1= .ok (.enter f (first++ #[xv]++captured)) w1:=he.run _ _;refine⟨L,[SL.mark w.heap.size],w1,{target:= .fn (.func f) captured,args:=first++ #[xv]},w1,f,first++ #[xv]++captured,w1,run_enterLoop_outer fn a.tmps ps assign body,LA,fun _ _=>by simp,hinv,fun hx=>by simp at hx,E8 _ ?_⟩;have e:first++ #[xv]++captured=(first.toList++ [xv]++captured.toList).toArray:=by apply Array.ext';simp
  rw [e];have sD:Sat (Co w.heap.size (.deferred (some []))::F::own) (w.alloc (.deferred (some []))):=D4 hs _ (fun _=>rfl);have sL:Sat (Co L (.loop rc)::Co w.heap.size (.deferred (some []))::F::own) w1:=by
    have:=D4 sD (.loop rc) (fun _=>rfl);rw [World.size_alloc] at this;exact this
  have sA:Sat ((Co L (.loop rc)::rest)++(hsI++ [Co w.heap.size (.deferred (some [])),F])) w1:=by
    refine sL.perm ((?_:List.Perm _ _).cons _);refine((t.perm.cons F).cons _).trans ?_;have p1:(Co w.heap.size (.deferred (some []))::F::(hsI++rest)).Perm ((hsI++rest)++ [Co w.heap.size (.deferred (some [])),F]):=List.perm_append_comm (l₁:= [Co w.heap.size (.deferred (some [])),F]) (l₂:=hsI++rest);refine p1.trans ?_;have p2:(hsI++rest).Perm (rest++hsI):=List.perm_append_comm;simpa [List.append_assoc] using p2.append_right [Co w.heap.size (.deferred (some [])),F]
  let lr:Loop->B6:=fun r=>Co L (.loop r)
  let JJ:Nat->B6->Prop:=fun k H=>∃own1,(lr rc::own1).Pairwise DM/\H=CB (lr rc::own1)/\J k own1
  let JD:B6->Prop:=fun H=>∃own1,(lr rc::own1).Pairwise DM/\H=CB (lr rc::own1)/\Jd own1
  let JX:B6->Prop:=fun H=>∃c own1,(lr {rc with state:= .done,pending:=some c}::own1).Pairwise DM/\H=CB (lr {rc with state:= .done,pending:=some c}::own1)/\Jx c own1
  have hpn:∀p∈ps.toList,p<n:=fun p hp=>Nat.le_of_ble_eq_true (List.all_eq_true.1 Zk p hp)
  have hT:=hI L JJ JD JX (fun k H hJ=>by
    obtain⟨own1,IW,rfl,hJ⟩:=hJ;rcases KN L k own1 hJ (List.pairwise_cons.1 IW).2 with ⟨x,h1,h2,h3⟩|⟨h1,h2⟩
    · refine .inl ⟨x,Vs _ _ _ _ (Oj IW) h1,?_⟩;exact Nu (rc:=rc) (Gz ha) hpn h2 rfl IW fun F=>by
        obtain⟨JE,e,h⟩:=h3 F;rw [OJ e] at h;exact h
    · exact .inr ⟨Vs _ _ _ _ (Oj IW) h1,own1,IW,rfl,h2⟩) _ ⟨rest,(sA.sub (List.sublist_append_left _ _)).dj,rfl,h0⟩
  refine(hT w1 [Co w.heap.size (.deferred (some [])),F] (by simpa using sA.CB)).mono ?_;rintro e w3 ⟨own',s3,rfl,H',rfl,hJ⟩;have done:∀(r3:Loop) own1,(lr r3::own1).Pairwise DM->H'=CB (lr r3::own1)->r3.state≠ .busy->
      ∃w4,(Instr.endLoop L).run P w3= .ok r3.pending w4/\Sat (F::(Co w.heap.size (.deferred (some []))::(own1++hsI))) w4:=by
    rintro r3 own1 IW rfl FB;have s4:Sat (lr r3::(own1++(hsI++ [Co w.heap.size (.deferred (some [])),F]))) w3:=by
      have:Sat (CB (lr r3::own1)::(hsI++ [Co w.heap.size (.deferred (some [])),F])) w3:=by simpa using s3
      simpa using this.Hl IW
    have hL3:w3.heap[L]?=some (.loop r3):=s4.at (List.mem_cons_self ..) (CT _ _);refine⟨_,run_endLoop hL3 FB,?_⟩;have s5:=(Le (o':= .loop {r3 with state:= .exhausted}) s4 (fun _=>rfl)).tail;refine s5.perm ?_;have p1:((own1++hsI)++ [Co w.heap.size (.deferred (some [])),F]).Perm ([F,Co w.heap.size (.deferred (some []))]++(own1++hsI)):=
      List.perm_append_comm.trans ((List.Perm.swap F _ []).append_right _)
    simpa [List.append_assoc] using p1
  rcases hJ with ⟨own1,IW,hH,hJ⟩|⟨c,own1,IW,hH,hJ⟩
  · obtain⟨w4,h1,h2⟩:=done rc own1 IW hH (by simp [rc]);refine⟨none,w4,h1,?_⟩;exact GR.mk (ds:=SL.mark w.heap.size::ds) Ak (Gz ha) (by simp [hd]) h2 (Jz _ _ hJ)
  · obtain⟨w4,h1,h2⟩:=done _ own1 IW hH Ak;refine⟨some c,w4,h1,?_⟩;exact Jv _ _ _ hJ _ w4 (Gz ha) (by simp [hd]) h2
end
theorem Ib{P:Program}{f:FuncId}{args:List Value}{own:List B6}{R:Ending->List B6->List B6->Prop}
    (h:T P f args own fun e o=>∃A N,o.Perm (N++A)/\R e A N):T P f args own fun e o=>∃A N K,o=K::A/\(∀k∈N,hle k K)/\R e A N:=by
  intro w X s;refine(h w X s).mono ?_;rintro e w' ⟨o,s2,A,N,hp,hR⟩;have s3:Sat (N++(A++X)) w':=s2.perm (by simpa using hp.append_right X);have d:N.Pairwise DM:=(List.pairwise_append.1 s3.dj).1;exact⟨CB N::A,by simpa using s3.CB,A,N,CB N,rfl,fun k hk=>DV d hk,hR⟩
theorem C0.Y1{own:List B6}{base:Option Addr}{cs:List Value}(s:C0 own base cs){K:B6}(h:∀k∈own,hle k K):Sl K base cs:=by
  obtain⟨k,hk,e⟩:=s.mem;exact e.mono (h k hk)
end Go.SL
end
section
namespace Go.SL
end Go.SL
end
section
namespace Go.SL
theorem EP{P:Program}{n:Nat}{env:Env}{o:Oper}{t e:TypeId}{bytes m:Nat}{x y:Operand}{zv:Value}{de:TypeDesc}{ti:TypeInfo} [g:M4 P t e 1 bytes] [z:Ty P e de zv ti]
    (ho:o.op= .makeSlice t x y) (hx:ev env x=some (.int .i64 (m:Int))) (hy:ev env y=some (.int .i64 (m:Int)))
    (hz:D9 zv=some [zv]) (Fq:m*bytes≤70368744177664) (hm:m≤70368744177664):
    Kt P n o env (fun b=> .slice (some ⟨b,0,none⟩) m m) (.cells ⟨List.replicate m zv⟩ e (0,0)):=by
  refine⟨by rw [ho];rfl,fun _=>by simp [Ou],fun A w hA=> ?_⟩;obtain⟨i,z',g1,g2,g3,g4,g5,g6⟩:=g.all;subst g6;have wl:IntKind.i64.wrap (m:Int)=m:=C8 Ab Ab;have hb:¬(281474976710656<(i.bytes:Int)*m):=by
    have:(i.bytes:Int)*m=((m*i.bytes:Nat):Int):=by rw [Int.natCast_mul,Int.mul_comm]
    omega
  have hn':¬((m:Int)<0):=by omega
  have hroom':∀w:World,(askRoom (m*i.bytes)).run P w= .ok () w:=fun w=>by unfold askRoom;split <;>simp
  have P0:zv.cells= #[zv]:=EB hz;have hzz:((Array.range m).map fun x=>zv.cells[x%zv.cells.size]!)=⟨List.replicate m zv⟩:=by
    rw [P0];apply Array.ext';apply List.ext_getElem?;intro j;by_cases hj:j<m
    · simp [hj,Nat.mod_one]
    · simp [hj]
  have hzn:∀w,(zeroValue e).run P w= .ok zv w:=fun w=>z.z w
  by_cases h0:m=0
  · subst h0;simp [execOp,ho,hA.eval hx,hA.eval hy,Instr.makeSlice,CL g1,asInt,asIntOf,HE g2,DO g2,g5,newRow,askRoom,IntKind.wrap,IntKind.bits,IntKind.signed,show(Array.range 0).map (fun(_:Nat)=>(default:Value))=⟨[]⟩ by simp]
  · simp [execOp,ho,hA.eval hx,hA.eval hy,Instr.makeSlice,CL g1,asInt,asIntOf,HE g2,wl,hb,hn',hroom',DO g2,g5,h0,newRow,hzn,hzz]
end Go.SL
end
section
namespace Go.SL
section
variable {P:Program} {r:Option Nat} {F:B6} {n:Nat} {Q:C4} {env:Env} {own:List B6} {ds:List Deferred}
theorem U6(k:Nat){l:Array Oper}{d:Bool}{c1 c2:Code}(h:Db P r F n (((Code.region k l d).seq c1).seq c2) Q env own ds):Db P r F n (((Code.region k l d).seq c1).seq c2) Q env own ds:=h
end
end Go.SL
end
