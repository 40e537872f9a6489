
import Derived.Test.YtcnmnmjmpocepaaGreatDoorV07
import Derived.Laws.Strings
import Derived.Laws.Concat
import Derived.Laws.IdiomStrings
import Derived.Lib.SlBytesConst
import Derived.RecoverIn
set_option linter.unusedVariables false
set_option linter.unusedSimpArgs false
set_option linter.unusedSectionVars false
set_option maxRecDepth 100000
set_option maxHeartbeats 16000000
section
namespace Go.SL
section
variable {P:Program} {r:Option Nat} {F:CA} {n:Nat} {Dk:List CA} {Q:DD} {env:Env} {own rest hs IN F6:List CA} {ds:List Deferred} {all:Array Oper} {s:List Sg} {o:Oper} {id:Nat} {an:An} {ml:ML}
theorem U8{t:TypeId}(ho:o.op= .makeMap t none):Mh P n o env (fun b=> .map (some b)) (.map #[] 0):=
  ⟨by rw [ho];rfl,fun _=>rfl,fun a w _=>by simp [execOp,ho,Instr.makeMap]⟩
theorem j9{i j d:Nat}{t kt et:TypeId}{k x:Operand}{z:Int}{v zm zk:Value}{im ik:TypeInfo}{vf:Nat->Value} [h1:Ty P t (.map kt et) zm im] [h2:Ty P kt (.int .i64) zk ik]
    (hi:all[i]?=some o) (ho:o.op= .insert t (.tmp d) k x) (hd:o.dst=none) (hg:o.guard=none) (hj:(all[j]?).bind (·.dst)=some d) (oe:(all.toList.zipIdx.all fun p=> !(p.1.dst ==some d) ||Nat.beq p.2 j)=true)
    (hk:k≠ .tmp d) (hx:x≠ .tmp d) (ek:ev env k=some (.int .i64 z)) (ex:ev env x=some v) (ha:an j=some (vf,.map #[] 0)) (nY:∀b,vf b= .map (some b)) (Kr:(ml.all fun p=> !(p.2.2.1 ==z))=true)
    (h:D0 P r F n all Dk Q ds s env own an ((i,j,z,v)::ml)):D0 P r F n all Dk Q ds (.fi i j::s) env own an ml:=by
  refine⟨z,v,⟨o,t,d,k,x,kt,et,vf,hi,ho,hd,hg,hj,?_,hk,hx,ek,ex,h1.u,h2.u,fun w=>HB h2.u false w,ha,nY,?_⟩,h⟩
  · intro l hl;cases hl':all[l]? with
    |none=>rw [hl'] at hl;cases hl
    | some o'=>
      rw [hl'] at hl
      simp only [Option.bind_some] at hl
      have hm:(o',l)∈all.toList.zipIdx:=by
        rw [List.mem_zipIdx_iff_getElem?];simpa using hl'
      have:=List.all_eq_true.1 oe _ hm;simp only [hl,beq_self_eq_true,Bool.not_true,Bool.false_or] at this
      exact Nat.eq_of_beq_eq_true this
  · intro l mw ao ib hl;have aux:∀(ml:ML),(ml.all fun p=> !(p.2.2.1 ==z))=true->RL ml l=some (j,mw,ao,ib)->∃z',z'≠z/\mw= .int .i64/\ao= .int .i64 z':=by
      intro ml;induction ml with
      |nil=>intro _ h;cases h
      | cons p ml ih=>
        obtain⟨i',j',z',v'⟩:=p;intro Fp h;simp only [List.all_cons,Bool.and_eq_true,Bool.not_eq_true',beq_eq_false_iff_ne] at Fp
        simp only [RL,Rt] at h
        split at h
        · simp only [Option.some.injEq,Prod.mk.injEq] at h
          obtain⟨-,rfl,rfl,rfl⟩:=h;exact⟨z',Fp.1,rfl,rfl⟩
        · exact ih Fp.2 h
    obtain⟨z',hz,rfl,rfl⟩:=aux ml Kr hl;constructor <;>simp [Instr.sameNow,hz,Ne.symm hz]
def dx:ML->Nat->Int->Option Value
  | [],_,_=>none
  |(_,j,z,v)::r,m,y=>if j=m then(if y=z then some v else dx r m y) else dx r m y
def TN(N:Nat):ML->Bool
  | []=>true
  |(i,j,z,_)::r=>Nat.blt i N && (r.all fun p=> !Nat.beq p.1 i) && (r.all fun p=> !Nat.beq p.2.1 j || !(p.2.2.1 ==z)) && TN N r
theorem QH{N:Nat}:∀ {ml:ML},TN N ml=true->∀k j dd kv v,RL ml k=some (j,dd,kv,v)↔∃z,(k,j,z,v)∈ml/\dd= .int .i64/\kv= .int .i64 z
  | [],_,k,j,dd,kv,v=>by simp [RL]
  | (i, j',z',v')::r,h,k,j,dd,kv,v=>by
    simp only [TN,Bool.and_eq_true] at h
    obtain⟨⟨⟨-,h2⟩, -⟩,h4⟩:=h;have ih:=QH h4 k j dd kv v;simp only [RL,Rt];by_cases e:k=i
    · subst e;rw [if_pos rfl];constructor
      · intro h;simp only [Option.some.injEq,Prod.mk.injEq] at h
        obtain⟨rfl,rfl,rfl,rfl⟩:=h;exact⟨z',List.mem_cons_self ..,rfl,rfl⟩
      · rintro⟨z,hm,rfl,rfl⟩;rcases List.mem_cons.1 hm with hm|hm
        · simp only [Prod.mk.injEq,true_and] at hm
          obtain⟨rfl,rfl,rfl⟩:=hm;rfl
        · have:=List.all_eq_true.1 h2 _ hm;simp at this
    · rw [if_neg e,ih];constructor
      · rintro⟨z,hm,h1⟩;exact⟨z,List.mem_cons_of_mem _ hm,h1⟩
      · rintro⟨z,hm,h1⟩;rcases List.mem_cons.1 hm with hm|hm
        · simp only [Prod.mk.injEq] at hm;exact absurd hm.1 e
        · exact⟨z,hm,h1⟩
theorem Yp{N:Nat}:∀ {ml:ML},TN N ml=true->∀p∈ml,p.1<N
  | [],_,p,hp=>by cases hp
  | (i,j',z',v')::r,h,p,hp=>by
    simp only [TN,Bool.and_eq_true] at h
    rcases List.mem_cons.1 hp with rfl|hp
    · exact Nat.le_of_ble_eq_true h.1.1.1
    · exact Yp h.2 p hp
theorem T6{N:Nat}:∀ {ml:ML},TN N ml=true->∀j z v,dx ml j z=some v↔∃k,(k,j,z,v)∈ml
  | [],_,j,z,v=>by simp [dx]
  | (i, j',z',v')::r,h,j,z,v=>by
    simp only [TN,Bool.and_eq_true] at h
    obtain⟨⟨-,h3⟩,h4⟩:=h;have ih:=T6 h4 j z v;have Sx:∀k u,(k,j',z',u)∈r->False:=fun k u hm=>by
      have:=List.all_eq_true.1 h3 _ hm;simp at this
    simp only [dx];by_cases e:j'=j
    · subst e;rw [if_pos rfl];by_cases e2:z=z'
      · subst e2;rw [if_pos rfl];constructor
        · intro h;cases h;exact⟨i,List.mem_cons_self ..⟩
        · rintro⟨k,hm⟩;rcases List.mem_cons.1 hm with hm|hm
          · simp only [Prod.mk.injEq,true_and] at hm;rw [hm.2]
          · exact(Sx k v hm).elim
      · rw [if_neg e2,ih];constructor
        · rintro⟨k,hm⟩;exact⟨k,List.mem_cons_of_mem _ hm⟩
        · rintro⟨k,hm⟩;rcases List.mem_cons.1 hm with hm|hm
          · simp only [Prod.mk.injEq,true_and] at hm;exact absurd hm.2.1 e2
          · exact⟨k,hm⟩
    · rw [if_neg e,ih];constructor
      · rintro⟨k,hm⟩;exact⟨k,List.mem_cons_of_mem _ hm⟩
      · rintro⟨k,hm⟩;rcases List.mem_cons.1 hm with hm|hm
        · simp only [Prod.mk.injEq] at hm;exact absurd hm.2.1.symm e
        · exact⟨k,hm⟩
theorem dz{en:En}{N j:Nat}{kv xv:Value}:(kv,xv)∈Gb en (fun _=>true) N j↔∃k,k<N/\∃dd,en k=some (j,dd,kv,xv):=by
  unfold Gb;rw [List.mem_filterMap];constructor
  · rintro⟨k,hk,h⟩;refine⟨k,List.mem_range.1 hk,?_⟩;cases e:en k with
    |none=>rw [e] at h;cases h
    | some q=>
      obtain⟨j',dd,ao,ib⟩:=q;rw [e] at h
      simp only at h
      split at h
      · rename_i hj;subst hj;cases h;exact⟨dd,rfl⟩
      · cases h
  · rintro⟨k,hk,dd,h⟩;exact⟨k,List.mem_range.2 hk,by rw [h];simp⟩
theorem Qg{k:IntKind}{z:Int}{v:Value}:∀ {es:List MapEntry},Js k es->Gu es z=some v->∃e∈es,e.key= .int k z/\e.val=v
  | [],_,h=>by cases h
  | e::es,hk,h=>by
    obtain⟨a,ha⟩:=hk e (List.mem_cons_self ..);simp only [Gu,ha] at h
    split at h
    · rename_i hz;subst hz;cases h;exact⟨e,List.mem_cons_self ..,ha,rfl⟩
    · obtain⟨e',h1,h2⟩:=Qg (fun x hx=>hk x (List.mem_cons_of_mem _ hx)) h;exact⟨e',List.mem_cons_of_mem _ h1,h2⟩
theorem Qi{k:IntKind}{z:Int}:∀ {es:List MapEntry},Js k es->Gu es z=none->∀e∈es,e.key≠ .int k z
  | [],_,_,e,he=>by cases he
  | e ::es,hk,h,e',he=>by
    obtain⟨a,ha⟩:=hk e (List.mem_cons_self ..);simp only [Gu,ha] at h
    split at h
    · cases h
    · rename_i hz
      rcases List.mem_cons.1 he with rfl|he
      · rw [ha];intro e;cases e;exact hz rfl
      · exact Qi (fun x hx=>hk x (List.mem_cons_of_mem _ hx)) h e' he
theorem jv{ml:ML}{N j b:Nat}{ob:Obj}(Ht:TN N ml=true)(hf:Pb (Gb (RL ml) (fun _=>true) N j) (.map #[] 0) ob):MP (CV b ob) b .i64 (dx ml j):=by
  obtain⟨es,Lo,rfl,hp⟩:=hf;simp only [List.map_nil,List.nil_append] at hp
  have hmem:∀kv v,(∃e∈es.toList,e.key=kv/\e.val=v)↔∃z,kv= .int .i64 z/\dx ml j z=some v:=by
    intro kv v;have h1:(∃e∈es.toList,e.key=kv/\e.val=v)↔(kv,v)∈es.toList.map fun e=>(e.key,e.val):=by
      rw [List.mem_map];constructor
      · rintro⟨e,he,rfl,rfl⟩;exact⟨e,he,rfl⟩
      · rintro⟨e,he,h⟩;cases h;exact⟨e,he,rfl,rfl⟩
    rw [h1,hp.mem_iff,dz];constructor
    · rintro⟨k,hk,dd,h⟩;obtain⟨z,hm,rfl,rfl⟩:=(QH Ht _ _ _ _ _).1 h;exact⟨z,rfl,(T6 Ht _ _ _).2 ⟨k,hm⟩⟩
    · rintro⟨z,rfl,h⟩;obtain⟨k,hm⟩:=(T6 Ht _ _ _).1 h;exact⟨k,Yp Ht _ hm,_,(QH Ht _ _ _ _ _).2 ⟨z,hm,rfl,rfl⟩⟩
  have hik:Js .i64 es.toList:=fun e he=>by
    obtain⟨z,h, -⟩:=(hmem e.key e.val).1 ⟨e,he,rfl,rfl⟩;exact⟨z,h⟩
  refine⟨es,Lo,rfl,hik,fun z=> ?_⟩;cases h:Gu es.toList z with
  | some v=>
    obtain⟨e,he,h1,h2⟩:=Qg hik h;obtain⟨z',hz,hv⟩:=(hmem _ _).1 ⟨e,he,h1,h2⟩;cases hz;exact hv.symm
  | none=>
    cases hv:dx ml j z with
    |none=>rfl
    | some v=>
      obtain⟨e,he,h1,h2⟩:=(hmem _ _).2 ⟨z,rfl,hv⟩;exact absurd h1 (Qi hik h e he)
theorem gL{i d:Nat}{vf:Nat->Value}(hi:all[i]?=some o)(hd:o.dst=some d)(ha:an i=some (vf,.map #[] 0))(nY:∀b,vf b= .map (some b))(Ht:TN all.size ml=true)
    (h:∀b hM,MP hM b .i64 (dx ml i)->D0 P r F n all Dk Q ds s ((d,.map (some b))::env) (hM::own) an ml):D0 P r F n all Dk Q ds (.rv i::s) env own an ml:=by
  refine⟨vf,_,ha,fun b Zu hf=> ?_⟩;have:IE all i (vf b) env=(d,.map (some b))::env:=by simp only [IE,hi,Option.bind_some,hd,nY]
  rw [this];exact h b _ (jv Ht hf)
end
end Go.SL
end
section
namespace Go.SL
section
variable {P:Program} {r:Option Nat} {F:CA} {n:Nat} {env:Env} {own rest:List CA} {ds:List Deferred}
end
end Go.SL
end
section
namespace Go.SL
section
variable {P:Program} {r:Option Nat} {F:CA} {n:Nat} {Q:DD} {env:Env} {own rest hs Dk:List CA} {ds:List Deferred} {all:Array Oper} {l:List Oper} {o:Oper} {s:List Sg} {an:An} {ml:ML}
end
section
variable {P:Program} {own:List CA} {n:Nat} {env:Env} {o:Oper}
theorem WU{t e:TypeId}{p:Option Addr}(hu:P.underlying t=some (.pointer e))(w:World):(Op.equal t (.pointer p) (.pointer none)).run P w= .ok p.isNone w:=by
  have h:(Op.equalIn 10000 t (.pointer p) (.pointer none)).run P w= .ok p.isNone w:=by
    rw [show(10000:Nat)=9999+1 from rfl,Op.equalIn];cases p <;>simp [Di hu]
  exact h
theorem Mt{t e u:TypeId}{x:Operand}{z:Value}{i:TypeInfo}{p:Option Addr} [h1:Ty P t (.pointer e) z i](ho:o.op= .binOp .neq t x (.const (.pointer none)) u)(hx:ev env x=some (.pointer p)):DG P own n o env (.bool (!p.isNone)):=
  DC (by rw [ho];rfl) fun c w ha=>by
    have hy:c.eval (.const (.pointer none))= .pointer none:=rfl;have hg:∀w,(eqGuard .neq t x (.const (.pointer none)) (.pointer p) (.pointer none)).run P w= .ok () w:=fun w=>by simp [eqGuard]
    simp only [execOp,ho,ha.eval hx,hy];simp [hg,binOp,WU h1.u]
end
end Go.SL
end
section
namespace Go.SL
theorem Ep{P:Program}{r:Option Nat}{F:CA}{n:Nat}{Q:DD}{env:Env}{own:List CA}{ds:List Deferred}(k:Nat){l:Array Oper}{d:Bool}{c1:Code}(h:DI P r F n ((Code.region k l d).seq c1) Q env own ds):DI P r F n ((Code.region k l d).seq c1) Q env own ds:=h
end Go.SL
end
section
namespace Go.SL
end Go.SL
end
section
namespace Go.SL
theorem Sw{P:Program}{n:Nat}{o:Oper}{env:Env}{t t2 e:TypeId}{c:Call}{x y:Operand}{b off:Nat}{b2:Addr}{len cap n2 c2 sz m:Nat}{own:List CA}{cs src:List Value}{T:TypeId} [g:OZ P t e sz]
    (n7:∀(w:World) (X:List CA),Sat (CV b (.cells ⟨cs⟩ T (0,0))::(own++X)) w->∀j v,src[j]?=some v->w.cell? (b2.add j)=some v)
    (hm:Nat.min n2 len=m) (Yw:src.length=m*sz) (ES:off+m*sz≤cs.length) (h1:src.all (·.oneCell')=true)
    (ho:o.op= .call c) (hc:c.callee= .builtin .copy) (Jc:c.args= #[x,y]) (FD:c.argTypes= #[t,t2]) (hx:ev env x=some (.slice (some ⟨b,off,none⟩) len cap)) (hy:ev env y=some (.slice (some b2) n2 c2)):
    Et P (CV b (.cells ⟨cs⟩ T (0,0))::own) n o env fun v own'=>v= .int .i64 (m:Int)/\own'=CV b (.cells ⟨cs.take off++src++cs.drop (off+m*sz)⟩ T (0,0))::own:=by
  refine⟨by rw [ho];rfl,fun a w X ha hs=> ?_⟩;have s1:Sat (CV b (.cells ⟨cs⟩ T (0,0))::(own++X)) w:=by simpa using hs
  have hb:w.heap[b]?=some (.cells ⟨cs⟩ T (0,0)):=s1.at (List.mem_cons_self ..) (Dq _ _);have Gy:=run_storeCells_at P b off T src 0 ⟨cs⟩ w hb As (by simpa using h1)
  let arr':Array Value:=((⟨cs⟩:Array Value).toList.take (off+0)++src++(⟨cs⟩:Array Value).toList.drop (off+0+src.length)).toArray
  have hfc:(Builtin.firstCells sz m (.slice (some b2) n2 c2)).run P w= .ok src.toArray w:=
    run_firstCells_some (P:=P) w sz m b2 n2 c2 src (Yw) fun j v hj=>n7 w X s1 j v hj
  have FE:(execOp a.eval o).run P w= .ok (.value (.int .i64 (m:Int))) (w.setRow b arr'):=by
    simp only [execOp,ho];simp [resolve,hc,Jc,FD,invoke,builtin,Builtin.copy_,ha.eval hx,ha.eval hy,Di g.u,Builtin.lenOf,goInt,g.s];rw [hm,hfc];simp only [Result.andThen];rw [Gy]
  have e1:arr'=⟨cs.take off++src++cs.drop (off+m*sz)⟩:=by simp [arr',Yw]
  refine⟨w.setRow b arr',.inl ⟨_,CV b (.cells arr' T (0,0))::own,FE,?_,rfl,by rw [e1]⟩⟩;have s2:=s1.put (setRow_heap w b _ arr' T (0,0) hb) Av Av (fun k hk=>setRow_other w b k _ hk) (fun _=>rfl);simpa using s2
theorem Zb{b:Nat}{b2:Addr}{cs src:List Value}{T:TypeId}{k:CA}{own:List CA}(sl:Sl k (some b2) src)(hk:k∈own)(w:World)(X:List CA)(s:Sat (CV b (.cells ⟨cs⟩ T (0,0))::(own++X)) w)(j:Nat)(v:Value)(hj:src[j]?=some v):w.cell? (b2.add j)=some v:=by
  obtain⟨a',mH,T3,qe,p1,p2,p3,p4⟩:=sl.cell j v hj;cases p1;obtain⟨bb,o2,sp⟩:=b2;obtain rfl:sp=none:=p2;have:=s.at (List.mem_cons_of_mem _ (List.mem_append_left X hk)) p3;have e:Addr.add ⟨bb,o2,none⟩ j=⟨bb,o2+j,none⟩:=by simp [Addr.add]
  rw [e,Hf this];exact p4
theorem aS{b o2:Nat}{cs src:List Value}{T:TypeId}{own:List CA}(hs:∀j v,src[j]?=some v->cs[o2+j]?=some v)(w:World)(X:List CA)(s:Sat (CV b (.cells ⟨cs⟩ T (0,0))::(own++X)) w)(j:Nat)(v:Value)(hj:src[j]?=some v):w.cell? ((⟨b,o2,none⟩:Addr).add j)=some v:=by
  have:=s.at (List.mem_cons_self ..) (Dq b (.cells ⟨cs⟩ T (0,0)));have e:Addr.add ⟨b,o2,none⟩ j=⟨b,o2+j,none⟩:=by simp [Addr.add]
  rw [e,Hf this];simpa using hs j v hj
section
variable {P:Program} {r:Option Nat} {F:CA} {n:Nat} {Q:DD} {env:Env} {own rest hs Dk:List CA} {ds:List Deferred} {all:Array Oper} {l:List Oper} {o:Oper} {s:List Sg} {an:An} {ml:ML}
theorem PQ{d:Nat}{t t2 e:TypeId}{c:Call}{x y:Operand}{b off:Nat}{b2:Addr}{len cap n2 c2 sz m:Nat}{k:CA}{cs src cs':List Value}{T:TypeId} [g:OZ P t e sz]
    (hd:o.dst=some d) (gg:Nat.blt d n=true) (hg:C6 all env o=some true) (ho:o.op= .call c) (hc:c.callee= .builtin .copy) (Jc:c.args= #[x,y]) (FD:c.argTypes= #[t,t2]) (hx:ev env x=some (.slice (some ⟨b,off,none⟩) len cap)) (hy:ev env y=some (.slice (some b2) n2 c2))
    [tk:Dx own [CV b (.cells ⟨cs⟩ T (0,0)),k] rest] (sl:Sl k (some b2) src) (hm:Nat.min n2 len=m) (Yw:src.length=m*sz) (ES:off+m*sz≤cs.length) (h1:src.all (·.oneCell')=true) (Oi:cs.take off++src++cs.drop (off+m*sz)=cs')
    (next:DE false P r F n all l Q ((d,.int .i64 (m:Int))::env) (CV b (.cells ⟨cs'⟩ T (0,0))::k::rest) ds):DE false P r F n all (o::l) Q env own ds:=
  Mn hd gg hg (Sw (own:= [k]) (Zb sl (List.mem_cons_self ..)) hm Yw ES h1 ho hc Jc FD hx hy) fun v' own' hR=>by
    obtain⟨rfl,rfl⟩:=hR;rw [Oi];exact⟨_,rfl,next⟩
theorem Z3{m0 d:Nat}{t t2 e:TypeId}{c:Call}{x y:Operand}{b off o2:Nat}{len cap n2 c2 sz m:Nat}{cs src cs':List Value}{T:TypeId} [g:OZ P t e sz]
    (hi:all[m0]?=some o) (hd:o.dst=some d) (hg:C6 all env o=some true) (ho:o.op= .call c) (hc:c.callee= .builtin .copy) (Jc:c.args= #[x,y]) (FD:c.argTypes= #[t,t2]) (hx:ev env x=some (.slice (some ⟨b,off,none⟩) len cap)) (hy:ev env y=some (.slice (some ⟨b,o2,none⟩) n2 c2))
    [tk:Dx own [CV b (.cells ⟨cs⟩ T (0,0))] rest] {GB:List CA} [tp:Dx rest Dk GB] (hs:∀j v,src[j]?=some v->cs[o2+j]?=some v) (hm:Nat.min n2 len=m) (Yw:src.length=m*sz) (ES:off+m*sz≤cs.length) (h1:src.all (·.oneCell')=true) (Oi:cs.take off++src++cs.drop (off+m*sz)=cs')
    (next:D0 P r F n all Dk Q ds s ((d,.int .i64 (m:Int))::env) (CV b (.cells ⟨cs'⟩ T (0,0))::rest) an ml):D0 P r F n all Dk Q ds (.h true m0::s) env own an ml:=
  OX hi hd hg (Sw (own:= []) (aS hs) hm Yw ES h1 ho hc Jc FD hx hy) Lg (fun _=> .inl ⟨GB,tp.perm⟩) fun v' own' hR=>by
    obtain⟨rfl,rfl⟩:=hR;rw [Oi];exact⟨_,rfl,next⟩
end
end Go.SL
end
section
namespace Go.SL
theorem YG(zs:List Value)(hp:0<zs.length):∀(m j:Nat),((List.replicate m zs).flatten)[j]?=if j<m*zs.length then zs[j%zs.length]? else none
  |0,j=>by simp
  | m +1,j=>by
    rw [List.replicate_succ,List.flatten_cons];by_cases h:j<zs.length
    · rw [List.getElem?_append_left h,if_pos (by rw [Nat.succ_mul];omega),Nat.mod_eq_of_lt h]
    · rw [List.getElem?_append_right Ab,YG zs hp m,<-Nat.mod_eq_sub_mod Ab];by_cases h2:j<(m+1)*zs.length
      · rw [if_pos h2,if_pos (by rw [Nat.succ_mul] at h2;omega)]
      · rw [if_neg h2,if_neg (by rw [Nat.succ_mul] at h2;omega)]
theorem HM{P:Program}{n:Nat}{env:Env}{o:Oper}{t e:TypeId}{sz bytes m:Nat}{x y:Operand}{zv:Value}{zs:List Value}{de:TypeDesc}{ti:TypeInfo} [g:NI P t e sz bytes] [z:Ty P e de zv ti]
    (ho:o.op= .makeSlice t x y) (hx:ev env x=some (.int .i64 (m:Int))) (hy:ev env y=some (.int .i64 (m:Int)))
    (hz:EA zv=some zs) (hs:zs.length=sz) (hp:0<sz) (FJ:m*bytes≤70368744177664) (hm:m≤70368744177664):
    Mh P n o env (fun b=> .slice (some ⟨b,0,none⟩) m m) (.cells ⟨(List.replicate m zs).flatten⟩ e (0,0)):=by
  refine⟨by rw [ho];rfl,fun _=>by simp [Pt],fun A w hA=> ?_⟩;obtain⟨i,z',g1,g2,g3,g4,g5,g6⟩:=g.all;subst g6;have wl:IntKind.i64.wrap (m:Int)=m:=Dz Ab Ab;have hb:¬(281474976710656<(i.bytes:Int)*m):=by
    have:(i.bytes:Int)*m=((m*i.bytes:Nat):Int):=by rw [Int.natCast_mul,Int.mul_comm]
    omega
  have hn':¬((m:Int)<0):=by omega
  have hroom':∀w:World,(askRoom (m*i.bytes)).run P w= .ok () w:=fun w=>by unfold askRoom;split <;>simp
  have Sq:zv.cells=⟨zs⟩:=Fg hz;have hzz:((Array.range (m*sz)).map fun x=>zv.cells[x%zv.cells.size]!)=⟨(List.replicate m zs).flatten⟩:=by
    rw [Sq];apply Array.ext';apply List.ext_getElem?;intro j;show _=((List.replicate m zs).flatten)[j]?;rw [YG zs Ab,hs];by_cases hj:j<m*sz
    · rw [if_pos hj];have h2:j%sz<zs.length:=by rw [hs];exact Nat.mod_lt _ hp
      have e3:zs[j%sz]?=some zs[j%sz]:=List.getElem?_eq_getElem h2;simp [hj,hs,e3]
    · rw [if_neg hj];simp [hj]
  have hzn:∀w,(zeroValue e).run P w= .ok zv w:=fun w=>z.z w
  by_cases h0:m=0
  · subst h0;simp [execOp,ho,hA.eval hx,hA.eval hy,Instr.makeSlice,Di g1,asInt,asIntOf,I3 g2,Ej g2,g5,newRow,askRoom,IntKind.wrap,IntKind.bits,IntKind.signed,show(Array.range 0).map (fun(_:Nat)=>(default:Value))=⟨[]⟩ by simp]
  · have h0':¬(m*sz=0):=fun h=>by
      rcases Nat.mul_eq_zero.1 h with h|h <;>omega
    simp [execOp,ho,hA.eval hx,hA.eval hy,Instr.makeSlice,Di g1,asInt,asIntOf,I3 g2,wl,hb,hn',hroom',Ej g2,g5,h0',newRow,hzn,hzz]
section
variable {P:Program} {r:Option Nat} {F:CA} {n:Nat} {Q:DD} {env:Env} {own rest hs Dk:List CA} {ds:List Deferred} {all:Array Oper} {l:List Oper} {o:Oper}
theorem HA{d:Nat}{vf:Nat->Value}{ob:Obj}(hd:o.dst=some d)(gg:Nat.blt d n=true)(hg:C6 all env o=some true)(hn:Mh P n o env vf ob)
    (next:∀b,DE false P r F n all l Q ((d,vf b)::env) (CV b ob::own) ds):DE false P r F n all (o::l) Q env own ds:=by
  obtain⟨h1,h2,h3⟩:=hn;refine Jl hd gg hg h1 fun A w hA hs=> ?_
  exact⟨vf w.heap.size,{w with heap:=w.heap.push ob},CV w.heap.size ob::own,h3 A w hA,(EN hs _ h2).swap,next _⟩
end
end Go.SL
end
section
namespace Go.SL
section
variable {P:Program} {r:Option Nat} {F:CA} {n:Nat} {Dk:List CA} {Q:DD} {env:Env} {own rest hs:List CA} {ds:List Deferred} {all:Array Oper} {s:List Sg} {o:Oper} {an:An} {ml:ML}
theorem EL{m d:Nat}{cl:Call}{x:Operand}{f:FuncId}{first captured:Array Value}{vs FI:List Value}{R:Ending->List CA->Prop} [Enters P f]
    (hi:all[m]?=some o) (hd:o.dst=some d) (hg:C6 all env o=some true) [t:Dx own hs rest]
    (ho:o.op= .call cl) (hc:cl.callee= .value x) (hx:ev env x=some (.func (.func f) first captured)) (Ko:OW env cl.args.toList=some vs)
    (Fp:Lq first.toList vs captured.toList=some FI) (hp:T P f FI hs R) {GB:List CA} [tp:Dx rest Dk GB]
    (h:∀(e:Ending) (own':List CA),R e own'->∃v Dp,e= .returned v/\IT own' rest=some Dp/\D0 P r F n all Dk Q ds s ((d,v)::env) Dp an ml):D0 P r F n all Dk Q ds (.h true m::s) env own an ml:=
  OX hi hd hg (iG ho hc hx Ko Fp hp fun e own' hR=>by obtain⟨v,_,h1,_⟩:=h e own' hR;exact⟨v,h1⟩)
    (fun h=>by cases h) (fun _=> .inl ⟨GB,tp.perm⟩) fun v own' hR=>by
    obtain⟨v',Dp,h1,h2,h3⟩:=h _ _ hR;cases h1;exact⟨Dp,h2,h3⟩
end
end Go.SL
end
section
namespace Go.SL
section
variable {P:Program} {r:Option Nat} {F:CA} {n:Nat} {Dk:List CA} {Q:DD} {env:Env} {own rest hs IN F6:List CA} {ds:List Deferred} {all:Array Oper} {s:List Sg} {o:Oper} {id:Nat} {an:An} {ml:ML}
theorem jJ{c:Call}{x:Operand}{f:FuncId}{first captured:Array Value}{vs FI:List Value}{hs:List CA}{R:Ending->List CA->Prop} [Enters P f]
    (ho:o.op= .call c) (hc:c.callee= .value x) (hx:ev env x=some (.func (.func f) first captured)) (Ko:OW env c.args.toList=some vs)
    (dh:Lq first.toList vs captured.toList=some FI) (h:T P f FI hs R) (jH:∀e own',R e own'->(∃v,e= .returned v)∨∃ch,e= .panicked ch):
    dW P hs n o env (fun v own'=>R (.returned v) own') (fun ch own'=>R (.panicked ch) own'):=by
  have Fp:=Pw dh;refine⟨by rw [ho];rfl,fun a w X ha hS=>⟨w,.inr (.inr (.inl ⟨f,_,M7 ha ho hc hx Ko w,?_⟩))⟩⟩;have e:first++vs.toArray++captured=FI.toArray:=by rw [<-Fp];simp
  rw [e];refine(h w X hS).mono ?_;rintro e w' ⟨own',s2,hR⟩;rcases jH e own' hR with ⟨v,rfl⟩|⟨ch,rfl⟩
  · exact .inl ⟨v,own',rfl,s2,hR⟩
  · exact .inr ⟨ch,own',rfl,s2,hR⟩
theorem Md{c:Bool}{m d:Nat}{cl:Call}{x:Operand}{f:FuncId}{first captured:Array Value}{vs FI:List Value}{R:Ending->List CA->Prop} [Enters P f]
    (hi:all[m]?=some o) (hd:o.dst=some d) (hg:C6 all env o=some true)
    (ho:o.op= .call cl) (hc:cl.callee= .value x) (hx:ev env x=some (.func (.func f) first captured)) (Ko:OW env cl.args.toList=some vs)
    (Fp:Lq first.toList vs captured.toList=some FI) [t:Dx own hs rest] (hp:T P f FI hs R)
    (jS:c=false->∀e own',R e own'->∃N,own'.Perm (hs++N)) (lR:c=true->(∃Y,rest.Perm (Dk++Y))∨OP all m=true)
    (h:∀e own',R e own'->(∃v Dp,e= .returned v/\IT own' rest=some Dp/\D0 P r F n all Dk Q ds s ((d,v)::env) Dp an ml)∨(∃ch Dp,e= .panicked ch/\IT own' rest=some Dp/\Q (.panic ch) [] Dp ds)):D0 P r F n all Dk Q ds (.h c m::s) env own an ml:=by
  refine⟨o,hs,rest,_,_,hi,t.perm,.inl ⟨hg,jJ ho hc hx Ko Fp hp fun e own' hR=> ?_⟩,fun hc v own' hR=>jS hc _ own' hR,lR,fun v own' hR=> ?_,fun ch own' hR=> ?_⟩
  · rcases h e own' hR with ⟨v,_,h1,_⟩|⟨ch,_,h1,_⟩
    · exact .inl ⟨v,h1⟩
    · exact .inr ⟨ch,h1⟩
  · rcases h _ own' hR with ⟨v',Dp,h1,h2,h3⟩|⟨ch,_,h1,_⟩
    · cases h1
      have:IE all m v env=(d,v)::env:=by simp only [IE,hi,Option.bind_some,hd]
      rw [this,<-Gd h2];exact h3
    · cases h1
  · rcases h _ own' hR with ⟨v',Dp,h1,h2,h3⟩|⟨ch',Dp,h1,h2,h3⟩
    · cases h1
    · cases h1;rw [<-Gd h2];exact h3
end
end Go.SL
end
section
namespace Go.SL
abbrev str(l:List UInt8):Value:= .string ⟨⟨l⟩⟩
def IB(l:List UInt8):List Value:=l.map fun x=> .int .u8 (x.toNat:Int)
@[simp] theorem Mj (l:List UInt8):(IB l).length=l.length:=by simp [IB]
theorem WI(l m:List UInt8):IB (l++m)=IB l++IB m:=by simp [IB]
theorem eM{l:List UInt8}{k:Nat}{x:UInt8}(h:l[k]?=some x):(IB l)[k]?=some (.int .u8 (x.toNat:Int)):=by simp [IB,h]
section
variable {P:Program} {own:List CA} {n:Nat} {env:Env} {o:Oper}
theorem Ek{t:TypeId}{z:Value}{i:TypeInfo}{c:Call}{x:Operand}{l:List UInt8} [h1:Ty P t .string z i](ho:o.op= .call c)(hc:c.callee= .builtin .len)(Jc:c.args= #[x])(FD:c.argTypes= #[t])
    (hx:ev env x=some (str l)):DG P own n o env (.int .i64 (l.length:Int)):=
  DC (by rw [ho];rfl) fun a w ha=>by
    have hs:(⟨⟨l⟩⟩:ByteArray).size=l.length:=rfl;simp [execOp,ho,resolve,hc,Jc,FD,invoke,builtin,Builtin.len_,ha.eval hx,Di h1.u,goInt,hs]
theorem Mu{t:TypeId}{z:Value}{i:TypeInfo}{x ix:Operand}{k:IntKind}{j:Int}{l:List UInt8}{b:UInt8} [h1:Ty P t .string z i](ho:o.op= .index t x ix)(hx:ev env x=some (str l))(hi:ev env ix=some (.int k j))
    (h0:0≤j) (hb:l[j.toNat]?=some b):DG P own n o env (.int .u8 (b.toNat:Int)):=
  DC (by rw [ho];rfl) fun a w ha=>by
    have E6:j.toNat<l.length:=(List.getElem?_eq_some_iff.1 hb).1;have e:(⟨⟨l⟩⟩:ByteArray)[j.toNat]?=some b:=by
      rw [ByteArray.getElem?_lt' _ _ (by simpa [ByteArray.size] using E6)];rw [<-hb,List.getElem?_eq_getElem E6];rfl
    simp [execOp,ho,ha.eval hx,ha.eval hi,Instr.index,asIntOf,Di h1.u,h0,e]
theorem HJ{t u:TypeId}{x y:Operand}{l m:List UInt8}(ho:o.op= .binOp .add t x y u)(hx:ev env x=some (str l))(hy:ev env y=some (str m))(hb:l.length+m.length≤9223372036854775807):DG P own n o env (str (l++m)):=
  DC (by rw [ho];rfl) fun c w ha=>by
    have hg:∀w,(eqGuard .add t x y (str l) (str m)).run P w= .ok () w:=fun w=>by simp [eqGuard]
    have h1:=run_string_add_sum (P:=P) (w:=w) ⟨⟨l⟩⟩ ⟨⟨m⟩⟩ (by simpa [ByteArray.size] using hb);have h2:(⟨⟨l⟩⟩:ByteArray)++⟨⟨m⟩⟩=⟨⟨l++m⟩⟩:=ByteArray.mk_append_mk l m;rw [h2] at h1
    simp only [execOp,ho,ha.eval hx,ha.eval hy];simp [hg,binOp,h1]
theorem GC{t u:TypeId}{x y:Operand}{l m:List UInt8}(ho:o.op= .binOp .eql t x y u)(hx:ev env x=some (str l))(hy:ev env y=some (str m)):DG P own n o env (.bool (decide (l=m))):=
  DC (by rw [ho];rfl) fun c w ha=>by
    have hg:∀w,(eqGuard .eql t x y (str l) (str m)).run P w= .ok () w:=fun w=>by simp [eqGuard]
    have e:((⟨⟨l⟩⟩:ByteArray).toList ==(⟨⟨m⟩⟩:ByteArray).toList)=decide (l=m):=by rw [ByteArray.toList_eq,ByteArray.toList_eq];rw [Bool.eq_iff_iff];simp
    simp only [execOp,ho,ha.eval hx,ha.eval hy];simp only [binOp_string_eql,e];simp [hg]
theorem P6{t u:TypeId}{x y:Operand}{l m:List UInt8}(ho:o.op= .binOp .neq t x y u)(hx:ev env x=some (str l))(hy:ev env y=some (str m)):DG P own n o env (.bool (decide (l≠m))):=
  DC (by rw [ho];rfl) fun c w ha=>by
    have hg:∀w,(eqGuard .neq t x y (str l) (str m)).run P w= .ok () w:=fun w=>by simp [eqGuard]
    have e:(!(⟨⟨l⟩⟩:ByteArray).toList ==(⟨⟨m⟩⟩:ByteArray).toList)=decide (l≠m):=by rw [ByteArray.toList_eq,ByteArray.toList_eq];rw [Bool.eq_iff_iff];simp
    simp only [execOp,ho,ha.eval hx,ha.eval hy];simp only [binOp_string_neq,e];simp [hg]
theorem Tq{t:TypeId}{l:List UInt8}{lo hi:Nat}(h:P.underlying t=some .string)(h1:lo≤hi)(h2:hi≤l.length)(mW mX:Option Value)(w:World)
    (iA:mW=none/\lo=0∨∃k,mW=some (.int k (lo:Int))) (rp:mX=none/\hi=l.length∨∃k,mX=some (.int k (hi:Int))):
    (Instr.slice t (str l) mW mX none).run P w= .ok (str ((l.take hi).drop lo)) w:=by
  have hs:(⟨⟨l⟩⟩:ByteArray).size=l.length:=rfl;have hb:(Instr.sliceBounds false (⟨⟨l⟩⟩:ByteArray).size (⟨⟨l⟩⟩:ByteArray).size mW mX none).run P w= .ok (lo,hi,l.length) w:=by
    rcases iA with ⟨rfl,rfl⟩|⟨k,rfl⟩ <;>rcases rp with ⟨rfl,rfl⟩|⟨k2,rfl⟩
    · simp [Instr.sliceBounds,hs]
    · simp [Instr.sliceBounds,hs,Gm (P:=P) (k:=k2) (j:=(hi:Int)) (y:=l.length) Ab Ab]
    · simp [Instr.sliceBounds,hs,Gm (P:=P) (k:=k) (j:=(lo:Int)) (y:=l.length) Ab Ab]
    · have e1:((lo:Int)).toNat=lo:=by simp
      simp [Instr.sliceBounds,hs,Gm (P:=P) (k:=k2) (j:=(hi:Int)) (y:=l.length) Ab Ab,Gm (P:=P) (k:=k) (j:=(lo:Int)) (y:=hi) Ab Ab]
  have he:(⟨⟨l⟩⟩:ByteArray).extract lo hi=⟨⟨(l.take hi).drop lo⟩⟩:=by
    apply ByteArray.ext;simp [List.drop_take]
  unfold Instr.slice;simp [Di h,hb,he]
theorem TG{t:TypeId}{z:Value}{i:TypeInfo}{x:Operand}{l:List UInt8}{lo hi:Nat}{mT mV:Option Operand} [h1:Ty P t .string z i](ho:o.op= .slice t x mT mV none)(hx:ev env x=some (str l))
    (hl:mT=none/\lo=0∨∃y k,mT=some y/\ev env y=some (.int k (lo:Int))) (hh:mV=none/\hi=l.length∨∃y k,mV=some y/\ev env y=some (.int k (hi:Int))) (h2:lo≤hi) (h3:hi≤l.length):
    DG P own n o env (str ((l.take hi).drop lo)):=
  DC (by rw [ho];rfl) fun a w ha=>by
    have:=Tq (P:=P) (t:=t) (l:=l) h1.u h2 h3 (mT.map a.eval) (mV.map a.eval) w
      (by rcases hl with ⟨rfl,h⟩|⟨y,k,rfl,h⟩
          · exact .inl ⟨rfl,h⟩
          · exact .inr ⟨k,by simp [ha.eval h]⟩)
      (by rcases hh with ⟨rfl,h⟩|⟨y,k,rfl,h⟩
          · exact .inl ⟨rfl,h⟩
          · exact .inr ⟨k,by simp [ha.eval h]⟩)
    simp only [execOp,ho,ha.eval hx];simp only [Option.map_none,Instr.sliceAt];simp [Di h1.u,this]
theorem EI{t:TypeId}{z:Value}{i:TypeInfo}{x y:Operand}{l:List UInt8}{k:IntKind}{j:Int} [h1:Ty P t .string z i](ho:o.op= .slice t x none (some y) none)(hx:ev env x=some (str l))(hy:ev env y=some (.int k j))
    (h0:0≤j) (h3:j≤l.length):DG P own n o env (str (l.take j.toNat)):=
  TG (lo:=0) (hi:=j.toNat) ho hx (.inl ⟨rfl,rfl⟩) (.inr ⟨y,k,rfl,by rw [hy];simp [Int.toNat_of_nonneg h0]⟩) (Nat.zero_le _) Ab
theorem LC{s t e:TypeId}{sz len cap:Nat}{x:Operand}{base:Option Addr}{l:List UInt8}{z z2:Value}{i i2:TypeInfo} [h1:OZ P s e sz] [h2:Ty P e (.int .u8) z i] [h3:Ty P t .string z2 i2]
    (ho:o.op= .convert s t x) (hx:ev env x=some (.slice base len cap)) (m:Ds own base (IB l)) (hl:l.length=len):DG P own n o env (str l):=
  ⟨by rw [ho];rfl,fun a w X ha hs=>⟨w,hs,.inl (by
    subst hl;simp only [execOp,ho,ha.eval hx];cases base with
    | none=>
      have hl:l= []:=by
        cases l with
        |nil=>rfl
        | cons b l=>
          obtain⟨a',e1, -⟩:=m.cell hs (k:=0) (v:= .int .u8 (b.toNat:Int)) (by simp [IB]);cases e1
      subst hl;simp [convert,Di h1.u,Di h2.u,Di h3.u,Conv.bytesToString]
      rfl
    | some ad=>
      have hc:∀j (hj:j<l.length),w.cell? (ad.add j)=some (.int .u8 (l[j].toNat:Int)):=fun j hj=>by
        obtain⟨a',e1,e2,e3⟩:=m.cell hs (eM (List.getElem?_eq_getElem hj));cases e1;obtain⟨b,off,sp⟩:=ad;simp only at e2;subst e2
        rw [Es];exact e3
      have:=run_convert_bytes_back (P:=P) w s t e ad cap l h1.u h2.u h3.u hc;simp [this])⟩⟩
end
theorem Fj{hs:List CA}{w:World}(s:Sat hs w)(o:Obj):Sat (CV w.heap.size o::hs) {w with heap:=w.heap.push o}:=by
  have hn:({w with heap:=w.heap.push o}:World).heap[w.heap.size]?=some o:=by simp
  have ho:wh w (.b w.heap.size)=none:=by simp [wh]
  refine⟨fun h hm=> ?_,List.pairwise_cons.2 ⟨fun h hm b o1 o2 h1 h2=> ?_,s.dj⟩⟩
  · rcases List.mem_cons.1 hm with rfl|hm
    · rw [E0];exact O1.2 hn
    · exact(s.le h hm).trans (VB w o)
  · obtain⟨rfl, -⟩:=Ud h1;have:=s.le h hm _ o2 h2;rw [ho] at this;cases this
section
variable {P:Program} {r:Option Nat} {F:CA} {n:Nat} {Q:DD} {env:Env} {own rest hs:List CA} {ds:List Deferred} {all:Array Oper} {l:List Oper} {o:Oper}
theorem PN{s t e:TypeId}{sz:Nat}{x:Operand}{bs:List UInt8}{d:Nat}{z z2:Value}{i i2:TypeInfo} [h1:OZ P t e sz] [h2:Ty P e (.int .u8) z i] [h3:Ty P s .string z2 i2]
    (hd:o.dst=some d) (hn:Nat.blt d n=true) (hg:C6 all env o=some true) (ho:o.op= .convert s t x) (hx:ev env x=some (str bs))
    (next:∀b cap m,bs.length≤cap->bs.length+m=cap->DE false P r F n all l Q ((d,.slice (some ⟨b,0,none⟩) bs.length cap)::env) (CV b (.cells ⟨IB bs++List.replicate m (.int .u8 0)⟩ e (cap,cap+1))::own) ds):
    DE false P r F n all (o::l) Q env own ds:=by
  refine Jl hd hn hg (by rw [ho];rfl) fun A w hA hs=> ?_
  have FE:=run_bytes_of_string (P:=P) w s t e ⟨⟨bs⟩⟩ h3.u h1.u h2.u;have Hs:(⟨⟨bs⟩⟩:ByteArray).size=bs.length:=rfl;have ZS:bs.length≤grownCap w bs.length 0 e:=by simp [grownCap,Question.cut]
  have LU:bytesRow ⟨⟨bs⟩⟩ (grownCap w bs.length 0 e)=⟨IB bs++List.replicate (grownCap w bs.length 0 e - bs.length) (.int .u8 0)⟩:=by
    apply Array.ext';simp [bytesRow,IB,Hs]
  have hrs:(bytesRow ⟨⟨bs⟩⟩ (grownCap w bs.length 0 e)).size=grownCap w bs.length 0 e:=by rw [LU];simp;omega
  rw [Hs,hrs,LU] at FE
  refine⟨_,w.drew.alloc (.cells ⟨IB bs++List.replicate (grownCap w bs.length 0 e - bs.length) (.int .u8 0)⟩ e (grownCap w bs.length 0 e,grownCap w bs.length 0 e+1)),CV w.heap.size (.cells ⟨IB bs++List.replicate (grownCap w bs.length 0 e - bs.length) (.int .u8 0)⟩ e (grownCap w bs.length 0 e,grownCap w bs.length 0 e+1))::own,?_,?_,next w.heap.size (grownCap w bs.length 0 e) (grownCap w bs.length 0 e - bs.length) ZS Ab⟩
  · simp only [execOp,ho,hA.eval hx];simp [FE]
  · have s2:Sat (F::own) w.drew:=hs.heap rfl rfl rfl;exact(Fj s2 _).swap
theorem Tn{o2:Oper}{t e:TypeId}{sz bytes len:Nat}{ps:Array (Nat×Operand)}{qs:List (Nat×Value)}{zv:Value}{zc zs cs:List Value}{d d2:Nat}{ti:TypeInfo} [g:NI P t e sz bytes] [h2:Ty P e (.int .u8) zv ti]
    (hd:o.dst=some d) (hn:Nat.blt d n=true) (hg:C6 all env o=some true) (ho:o.op= .buildSlice t len ps) (hp:T7 env ps.toList=some qs)
    (Sq:EA zv=some zc) (Vv:zc.length=sz) (hz:WB len zc=some zs) (hb:Lp (fun i=>some (i*sz,sz)) zs qs=some cs) (Qv:Nat.ble (len*sz) 16777216=true)
    (T0:o2.dst=some d2) (Wu:Nat.blt d2 n=true) (ot:o2.guard=none) (jL:o2.op= .convert t t (.tmp d))
    (next:∀b,DE false P r F n all l Q ((d2,.slice (some ⟨b,0,none⟩) len len)::(d,.slice (some ⟨b,0,none⟩) len len)::env) (CV b (.cells ⟨cs⟩ e (cs.length,cs.length+1))::own) ds):
    DE false P r F n all (o::o2::l) Q env own ds:=by
  intro k hk;obtain⟨i,k',rfl,hi,Oh⟩:=YZ hk;obtain⟨j,k2,rfl,hj,MU⟩:=YZ Oh;obtain⟨gd, -,Kr⟩:=FU (P:=P) (n:=n) (env:=env) (o:=o) ho hp Sq Vv hz hb Qv;intro a w ha OT hs;have eh:=Kr a w ha;rw [wpOpsIn_cons];simp only [wpOpIn,hi,Ee ha hg,if_true];refine⟨fun f _=>by simp,?_⟩;rw [Ff,semAt_plain gd,eh,Oper.uponIn_value,hd];have Wy:=ha.put (.slice (some ⟨w.heap.size,0,none⟩) len len) (Nat.le_of_ble_eq_true hn);have iz:C6 all ((d,.slice (some ⟨w.heap.size,0,none⟩) len len)::env) o2=some true:=by simp [C6,ot]
  have hx:(a.put (some d) (.slice (some ⟨w.heap.size,0,none⟩) len len)).eval (.tmp d)= .slice (some ⟨w.heap.size,0,none⟩) len len:=Wy.eval (x:= .tmp d) (Fy _ _ _);have FE:=Lib.run_convert_bytes_const (P:=P) w t e ⟨cs⟩ len len g.all.choose_spec.choose_spec.1 h2.u;have hpl2:EX o2.op=true:=by rw [jL];rfl
  rw [wpOpsIn_cons];simp only [wpOpIn,hj,Ee Wy iz,if_true];refine⟨fun f _=>by simp,?_⟩;have he:(execOp (a.put (some d) (.slice (some ⟨w.heap.size,0,none⟩) len len)).eval o2).run P {w with heap:=w.heap.push (.cells ⟨cs⟩ e (0,0))}= .ok (.value (.slice (some ⟨w.heap.size,0,none⟩) len len)) (w.alloc (.cells ⟨cs⟩ e ((⟨cs⟩:Array Value).size,(⟨cs⟩:Array Value).size+1))):=by
    simp only [execOp,jL,hx];show(do pure (Next.value (<-convert t t (.slice (some ⟨w.heap.size,0,none⟩) len len))):Sem Next).run P (w.alloc (.cells ⟨cs⟩ e))=_;simp [FE]
  rw [Ff,semAt_plain hpl2,he,Oper.uponIn_value,T0];exact next w.heap.size k2 MU _ _ (Wy.put _ (Nat.le_of_ble_eq_true Wu)) OT (Fj hs _).swap
end
end Go.SL
end
section
namespace Go.SL
def oV(P:Program)(fn:Func)(n:Nat)(Q:Ending->List CA->Prop)(u:FrameMode)(env:Env)(own:List CA)(ds:List Deferred):Prop:=
  ∀a w X,Has n env a->a.defers=ds->Sat (own++X) w->LeavesInM Fence.wide 0 P fn a.tmps (fun e w'=>∃own',Sat (own'++X) w'/\Q e own') ds u w
def kd(P:Program)(fn:Func)(n:Nat)(Q:Ending->List CA->Prop):DD
  | .normal,env,own,ds| .ret,env,own,ds=>oV P fn n Q .returning env own ds
  | .panic ch,env,own,ds=>oV P fn n Q (.panicking ch) env own ds
  |_,_,_,_=>False
theorem PJ{P:Program}{f:FuncId}{fn:Func}{c:Code}{args:List Value}{hs:List CA}{Q:Ending->List CA->Prop}(hf:P.funcs[f]?=some fn)(hb:fn.body=some c)
    (hn:args.length≤fn.ntmps) (h:∀F,DI P none F fn.ntmps c (kd P fn fn.ntmps Q) (params args 0) hs []):T P f args hs Q:=by
  intro w X s;have hX:=PR s;refine(callsIn_wide (n:=0)).1 (callsIn_of_wp_marks hf hb trivial ?_);have ha:Has fn.ntmps (params args 0) {tmps:=args.toArray++Array.replicate (fn.ntmps - args.toArray.size) undef,defers:= []}:=by
    refine⟨by simp;omega,fun i v hi=> ?_⟩;obtain⟨-,h2⟩:=K9 args 0 i v hi;simp only [Nat.sub_zero] at h2
    have E6:i<args.length:=(List.getElem?_eq_some_iff.1 h2).1;rw [Array.getElem?_append_left (by simpa using E6)];simpa using h2
  refine wpIn_mono (h (Da X) _ w ha rfl (N1 s)) fun e a w' ⟨he,env,own,h1,h2,h3⟩=> ?_
  have h2':Sat (own++X) w':=Jm hX h2;cases e with
  |normal=>exact h3 a w' X h1 rfl h2'
  |ret=>exact h3 a w' X h1 rfl h2'
  |panic chain=>exact h3 a w' X h1 rfl h2'
  |exit _=>exact h3.elim
  |goto _=>exact h3.elim
  |outgrown=>exact absurd rfl he
def TD(P:Program)(f:FuncId)(args:List Value)(hs:List CA)(u:FrameMode)(R:Ending->FrameMode->List CA->Prop):Prop:=
  ∀w X,Sat (hs++X) w->CallsDIn Fence.wide 0 P f args.toArray u w fun e u' w'=>∃own,Sat (own++X) w'/\R e u' own
theorem Yq{P:Program}{fn:Func}{n:Nat}{Q:Ending->List CA->Prop}{u:FrameMode}{env:Env}{own hs rest:List CA}{g:FuncId}{dargs cap all:List Value}{R:Ending->FrameMode->List CA->Prop} [Enters P g] [t:Dx own hs rest]
    (hu:u≠ .run) (Fp:dargs++cap=all) (ry:TD P g all hs u R)
    (h:∀e u' own',R e u' own'->(∃v,e= .returned v)/\settle u'= .returning/\∃v Dp,IK P fn.results.toList (own'++rest) env n v/\(∀X w,Sat ((own'++rest)++X) w->Sat (Dp++X) w)/\Q (.returned v) Dp):
    oV P fn n Q u env own [{target:= .fn (.func g) cap.toArray,args:=dargs.toArray}]:=by
  intro a w X ha _ hs';refine⟨hu,.inr ⟨fun hx=>(by cases hx),.func g,cap.toArray,g,all.toArray,rfl,?_,fun _ _=>trivial,?_⟩⟩
  · have:(callFunc g (dargs.toArray++cap.toArray)).run P w= .ok (.enter g (dargs.toArray++cap.toArray)) w:=Enters.run _ _;simp only [invoke];rw [this,<-Fp];simp
  · have hp:(own++X).Perm (hs++(rest++X)):=by rw [<-List.append_assoc];exact t.perm.append_right X
    obtain⟨h1,h2⟩:=ry w (rest++X) (hs'.perm hp);refine⟨h1,fun c cs hc FJ=> ?_⟩;obtain⟨e,u',w',fr,⟨own',s2,hR⟩,hcomes,hk,lZ,hgo⟩:=h2 c cs hc FJ;refine⟨e,u',w',fr,?_,hcomes,hk,lZ,hgo⟩;obtain⟨⟨v0,rfl⟩,hset,v,Dp,Og,Vw,hq⟩:=h e u' own' hR;show LeavesInM Fence.wide 0 P fn a.tmps _ [] (settle u') w';rw [hset];have s3:Sat ((own'++rest)++X) w':=by rw [List.append_assoc];exact s2
    exact⟨v,Og fn a w' X rfl ha s3,Dp,Vw X w' s3,hq⟩
def ka(P:Program)(fn:Func)(n:Nat)(Q:Ending->List CA->Prop):DD
  | .normal,env,own,ds| .ret,env,own,ds=>ds= []/\∃v own',IK P fn.results.toList own env n v/\(∀X w,Sat (own++X) w->Sat (own'++X) w)/\Q (.returned v) own'
  | .panic ch,_,own,ds=>ds= []/\Q (.panicked ch) own
  |_,_,_,_=>False
section
variable {P:Program} {f:FuncId} {fn:Func} {c2:Code} {args:List Value} {hs:List CA} {Q:Ending->List CA->Prop} {id:Nat} {ops:Array Oper} {o0 o1:Oper} {cl:Call} {d0 d1:Nat}
theorem PH{v:Value}{u u':FrameMode}(n9:∀(LX:Frame) cs,LX.mode=u->(recoverD (LX::cs)=some (v,{LX with mode:=u'}::cs))∨(recoverD (LX::cs)=none/\v= .nilIface/\u'=u))
    (hf:P.funcs[f]?=some fn) (hb:fn.body=some (.seq (.region id ops false) c2)) (hn:args.length≤fn.ntmps)
    (jK:ops.toList= [o0,o1]) (rE:o0.op= .call cl) (hc:cl.callee= .builtin .recover) (Jt:cl.args= #[]) (c8:o0.dst=some d0) (ou:o0.guard=none) (kL:o1.op= .assign (.tmp d0)) (jT:o1.dst=some d1) (rM:o1.guard=none)
    (kQ:Nat.blt d0 fn.ntmps=true) (VD:Nat.blt d1 fn.ntmps=true)
    (h:∀F,DI P none F fn.ntmps c2 (ka P fn fn.ntmps Q) ((d1,v)::(d0,v)::params args 0) hs []):
    TD P f args hs u fun e m own=>m=u'/\Q e own:=by
  intro w X s;have hX:=PR s;refine callsDIn_of_wpSIn hf hb trivial fun LX cs hu=> ?_
  have ha:Has fn.ntmps (params args 0) {tmps:=args.toArray++Array.replicate (fn.ntmps - args.toArray.size) undef,defers:= []}:=by
    refine⟨by simp;omega,fun i v hi=> ?_⟩;obtain⟨-,h2⟩:=K9 args 0 i v hi;simp only [Nat.sub_zero] at h2
    have E6:i<args.length:=(List.getElem?_eq_some_iff.1 h2).1;rw [Array.getElem?_append_left (by simpa using E6)];simpa using h2
  have hA:(({tmps:=args.toArray++Array.replicate (fn.ntmps - args.toArray.size) undef,defers:= []}:Act).put (some d0) v|>.put (some d1) v).defers= []:=rfl
  generalize ({tmps:=args.toArray++Array.replicate (fn.ntmps - args.toArray.size) undef,defers:= []}:Act)=A at ha hA ⊢
  have Hs:ops.size=2:=by rw [<-Array.length_toList,jK];rfl
  have i0:ops[0]?=some o0:=by rw [<-Array.getElem?_toList,jK];rfl
  have i1:ops[1]?=some o1:=by rw [<-Array.getElem?_toList,jK];rfl
  have fin:∀cs':List Frame,cs'={LX with mode:=u'}::cs->
      c2.wpSIn Fence.wide 0 P (bodyPostS P fn LX cs fun e m w'=>∃own,Sat (own++X) w'/\m=u'/\Q e own) ((A.put (some d0) v).put (some d1) v) cs' w:=by
    rintro cs' rfl;have Wy:=(ha.put v (Nat.le_of_ble_eq_true kQ)).put v (Nat.le_of_ble_eq_true VD);refine wpSIn_of_wpIn rfl (wpIn_mono (h (Da X) _ w Wy hA (N1 s)) fun e a w' ⟨he,env,own,h1,h2,h3⟩=> ?_);have h2':Sat (own++X) w':=Jm hX h2;have ret:(a.defers= []/\∃v own',IK P fn.results.toList own env fn.ntmps v/\(∀X w,Sat (own++X) w->Sat (own'++X) w)/\Q (.returned v) own')->
        a.defers= []/\∃m,({LX with mode:=u'}::cs:List Frame)={LX with mode:=m}::cs/\∃r,(results fn a.tmps).run P w'= .ok r w'/\∃own,Sat (own++X) w'/\m=u'/\Q (.returned r) own:=by
      rintro⟨g1,r,own',g2,g3,g4⟩;exact⟨g1,u',rfl,r,g2 fn a w' X rfl h1 h2',own',g3 X w' h2',rfl,g4⟩
    cases e with
    |normal=>exact ret h3
    |ret=>exact ret h3
    |panic chain=>exact⟨h3.1,u',rfl,own,h2',rfl,h3.2⟩
    |exit _=>exact h3.elim
    |goto _=>exact h3.elim
    |outgrown=>exact absurd rfl he
  have hr0:(execOp A.eval o0).run P w= .ok .recover w:=by simp [execOp,rE,resolve,hc,invoke,builtin]
  have hw0:∀B:Act,Region.wanted o0 (yielded ops B.tmps)=true:=fun B=>by simp [Region.wanted,ou]
  have eh:∀B:Act,Region.wanted o1 (yielded ops B.tmps)=true:=fun B=>by simp [Region.wanted,rM]
  refine wpSIn_seq (wpSIn_region ?_);rw [Hs];show wpOpsSIn Fence.wide 0 P ops _ [0,1] A (LX::cs) w;have oa:(execOp (A.put (some d0) v).eval o1).run P w= .ok (.value v) w:=by
    have:=(ha.put v (Nat.le_of_ble_eq_true kQ)).eval (x:= .tmp d0) (Fy _ _ _);simp [execOp,kL,this]
  have last:∀cs':List Frame,cs'={LX with mode:=u'}::cs->wpOpsSIn Fence.wide 0 P ops (Exit.thenS (c2.wpSIn Fence.wide 0 P (bodyPostS P fn LX cs fun e m w'=>∃own,Sat (own++X) w'/\m=u'/\Q e own)) (bodyPostS P fn LX cs fun e m w'=>∃own,Sat (own++X) w'/\m=u'/\Q e own)) [1] (A.put (some d0) v) cs' w:=fun cs' Oi=>by
    simp only [wpOpsSIn,i1];refine⟨fun f _=>trivial,?_⟩;rw [if_pos (eh _),oa];simp only [jT];exact fin cs' Oi
  rw [wpOpsSIn];simp only [i0];refine⟨fun f _=>trivial,?_⟩;rw [if_pos (hw0 _),hr0];rcases n9 LX cs hu with h1|⟨h1,rfl,rfl⟩
  · simp only [h1,c8];exact last _ rfl
  · simp only [h1,c8];exact last _ (by rw [<-hu])
end
end Go.SL
end
section
namespace Go.SL
section
variable {P:Program} {r:Option Nat} {F:CA} {n:Nat} {Q:DD} {env:Env} {own rest hs:List CA} {ds:List Deferred} {all:Array Oper} {l:List Oper} {o:Oper}
theorem aX{x:Operand}{t:TypeId}{v:Value}(hg:C6 all env o=some true)(ho:o.op= .panic x)(hx:ev env x=some (.iface t v))
    (h:Q (.panic [{v:= .iface t v,recovered:=false}]) env own ds):DE false P r F n all (o::l) Q env own ds:=fun k hk=>by
  obtain⟨i,k',rfl,hi,Oh⟩:=YZ hk;intro a w ha OT hs;rw [wpOpsIn_cons];simp only [wpOpIn,hi,Ee ha hg,if_true];refine⟨fun f _=>by simp,?_⟩;have hp:EX o.op=true:=by rw [ho];rfl
  have hr:(execOp a.eval o).run P w= .halt (.panic (.iface t v)) w:=by
    simp [execOp,ho,ha.eval hx,Instr.panic,goPanic,Sem.run,Result.andThen]
  rw [Ff,semAt_plain hp,hr];exact H9.mk Am ha OT hs h
theorem UH{c:Call}{x:Operand}{fv:Fn}{first captured:Array Value}{vs:List Value}(hd:o.dst=none)(hg:C6 all env o=some true)(ho:o.op= .defer c)(hc:c.callee= .value x)(hx:ev env x=some (.func fv first captured))
    (Ko:OW env c.args.toList=some vs)
    (h:DE false P none F n all l Q env own ({target:= .fn fv captured,args:=first++vs.toArray}::ds)):DE false P none F n all (o::l) Q env own ds:=fun k hk=>by
  obtain⟨i,k',rfl,hi,Oh⟩:=YZ hk;intro a w ha OT hs;rw [wpOpsIn_cons];simp only [wpOpIn,hi,Ee ha hg,if_true];refine⟨fun f _=>by simp,?_⟩;have h1:c.args.map a.eval=vs.toArray:=Array.ext' (by simpa using Lk ha Ko);have hr:(execOp a.eval o).run P w= .ok (.defer {target:= .fn fv captured,args:=first++vs.toArray}) w:=by
    simp [execOp,ho,resolve,hc,ha.eval hx,h1,Deferred.ofValue]
  rw [Ff];rw [Oper.semAt_none,hr,Oper.uponIn_defer,hd];refine h k' Oh _ w ⟨ha.size,ha.get⟩ ?_ hs;simp [Act.put,OT]
end
section
variable {P:Program} {own:List CA} {n:Nat} {env:Env} {o:Oper}
def Po:TypeDesc->Bool
  | .interface _=>false
  |_=>true
theorem Fb{t:TypeId}{d:TypeDesc}{z v:Value}{i:TypeInfo}{x:Operand} [ty:Ty P t d z i](ho:o.op= .makeInterface t x)(hx:ev env x=some v)(hd:Po d=true):DG P own n o env (.iface t v):=
  DC (by rw [ho];rfl) fun a w ha=>by
    cases d <;>simp_all [execOp,ho,ha.eval hx,Instr.makeInterface,Di ty.u,Po]
theorem Rw{t u:TypeId}{d:TypeDesc}{z v:Value}{i:TypeInfo}{x:Operand} [ty:Ty P t d z i](ho:o.op= .typeAssert x u t true)(hx:ev env x=some (.iface t v))(hd:Po d=true):DG P own n o env (.tuple ⟨[v,.bool true]⟩):=
  DC (by rw [ho];rfl) fun a w ha=>by
    cases d <;>simp_all [execOp,ho,ha.eval hx,Instr.typeAssert,Di ty.u,Po]
end
end Go.SL
end
