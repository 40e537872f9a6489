
import Derived.Test.YtcnmnmjmpocepaaGreatDoorU08
set_option linter.unusedVariables false
set_option linter.unusedSimpArgs false
set_option linter.unusedSectionVars false
set_option maxRecDepth 100000
set_option maxHeartbeats 16000000
section
namespace Go.SL
section
variable {P:Program} {own:List B6} {n:Nat} {env:Env} {o:Oper}
theorem Mg{t:TypeId}{x:Operand}{k:Nat}{base:Option Addr}{cs:List Value}{v u z y:Value} [ty:Y6 P t 4](ho:o.op= .load t x)(hx:ev env x=some (Q7 base k))(m:C0 own base cs)(hv:cs[k]?=some v)(hu:cs[k+1]?=some u)(hz:cs[k+2]?=some z)(hy:cs[k+3]?=some y):Dc P own n o env (.agg ⟨[v,u,z,y]⟩):=
  HI (vs:= [v,u,z,y]) ho hx (Nat.succ_pos 3) rfl fun j w hj=>by
    match j,hj with
    |0,hj=>simp at hj;subst hj;exact hv
    |1,hj=>simp at hj;subst hj;exact hu
    |2,hj=>simp at hj;subst hj;exact hz
    |3,hj=>simp at hj;subst hj;exact hy
theorem Wf{t ty e:TypeId}{i:TypeInfo}{z:Value}{K:B6}{base yb:Option Addr}{len m mc:Nat}{cs news:List Value}{X:List B6}{w:World}
    (g1:P.underlying t=some (.slice e)) (g2:P.info? e=some i) (g3:i.zero=some z) (g4:z.cells.size=i.size) (hs:Sat ([K]++X) w) (sb:Sl K base cs) (mm:Sl K yb news)
    (Kl:cs.length=len*i.size) (FZ:news.length=m*i.size) (Gr:0<i.size) (Fq:(len+m)*i.bytes≤35184372088832) (hlen:len+m≤35184372088832):
    ∃h' DN E4 w',(Builtin.append_ #[t,t] ty #[.slice base len len,.slice yb m mc]).run P w= .ok (.slice DN (len+m) E4) w'/\C0 [h',K] DN (cs++news)/\Sat (h'::([K]++X)) w':=by
  have hbase:∀(b:Option Addr) (l:List Value) (k:Nat),Sl K b l->l.length=k*i.size->0<k->∃bb off,b=some ⟨bb,off,none⟩/\∀j v,l[j]?=some v->w.cell? ((⟨bb,off,none⟩:Addr).add j)=some v:=by
    intro b l k sl hl hk;have hp:0<l.length:=by rw [hl];exact Nat.mul_pos hk Gr
    have mi:C0 [K] b l:=⟨K,by simp,sl⟩;obtain⟨a,e1,e2, -⟩:=mi.cell hs (List.getElem?_eq_getElem hp);obtain⟨bb,off,sp⟩:=a;simp only at e2
    subst e2;refine⟨bb,off,e1,fun j v hj=> ?_⟩;obtain⟨a',e3,e4,e5⟩:=mi.cell hs hj;rw [e1] at e3;cases e3
    rw [DX];exact e5
  have fin:∀(Vi:List Value) (A z0:Array Value),A=Vi.toArray->C0 [Co w.heap.size (.cells (A++z0) e (0,0)),K] (some ⟨w.heap.size,0,none⟩) Vi:=fun Vi A z0 hA=>
    ⟨_,List.mem_cons_self ..,⟨fun k v hk=>⟨_,_,_,_,rfl,rfl,CT _ _,by
      subst hA;have Em:k<Vi.length:=(List.getElem?_eq_some_iff.1 hk).1;rw [Nat.zero_add,Array.getElem?_append_left (by simpa using Em)];rw [<-hk];simp⟩⟩⟩
  have sat:∀(ob:Array Value),Sat (Co w.heap.size (.cells ob e (0,0))::([K]++X)) {w.drew with heap:=w.heap.push (.cells ob e (0,0))}:=fun ob=>D4 (w:=w.drew) (hs.heap rfl rfl rfl) _ (fun _=>by simp [Ou])
  rcases Nat.eq_zero_or_pos m with hm|hm
  · subst hm;have hn0:news= []:=List.length_eq_zero_iff.1 Ab;subst hn0;refine⟨emp,base,len,w,I8 w g1 g2 (Nat.le_refl len),⟨K,by simp,by rw [List.append_nil];exact sb⟩,?_⟩;exact⟨fun h hh=>by
        rcases List.mem_cons.1 hh with rfl|hh
        · intro b o e;cases e
        · exact hs.le h hh,List.pairwise_cons.2 ⟨fun _ _ _ _ _ e _=>(by cases e),hs.dj⟩⟩
  · obtain⟨b2,X1,rfl,Ke⟩:=hbase yb news m mm FZ hm;rcases Nat.eq_zero_or_pos len with dS|dS
    · subst dS;have hc0:cs= []:=List.length_eq_zero_iff.1 Ab;subst hc0;rcases base with _|⟨bb,off,sp⟩
      · have E0:=run_append_nil (P:=P) w t ty e i z g1 g2 g3 ⟨b2,X1,none⟩ m mc news FZ Ke hm Ab (by rw [Nat.zero_add] at Fq;omega);rw [Nat.zero_add];exact⟨_,_,_,_,E0,fin news _ _ rfl,sat _⟩
      · have Q0:=nextslicecap_le (need:=0+m) (old:=0) Ab;have E0:=run_append_grow (P:=P) w t ty e i z g1 g2 g3 ⟨bb,off,sp⟩ 0 0 [] Ak (fun j v hj=>by simp at hj) ⟨b2,X1,none⟩ m mc news FZ Ke Ab Ab (by
          have:Builtin.nextslicecap (0+m) 0*i.bytes≤2*(0+m)*i.bytes:=Nat.mul_le_mul_right _ Q0;rw [Nat.mul_assoc] at this
          omega)
        exact⟨_,_,_,_,E0,fin ([]++news) _ _ Ak,sat _⟩
    · obtain⟨bb,off,rfl,hold⟩:=hbase base cs len sb Kl dS;have Q0:=nextslicecap_le (need:=len+m) (old:=len) Ab;have E0:=run_append_grow (P:=P) w t ty e i z g1 g2 g3 ⟨bb,off,none⟩ len len cs Kl hold ⟨b2,X1,none⟩ m mc news FZ Ke Ab Ab (by
        have:Builtin.nextslicecap (len+m) len*i.bytes≤2*(len+m)*i.bytes:=Nat.mul_le_mul_right _ Q0;rw [Nat.mul_assoc] at this
        omega)
      exact⟨_,_,_,_,E0,fin (cs++news) _ _ Ak,sat _⟩
theorem Sz{t e:TypeId}{sz bytes:Nat}{c:Call}{x y:Operand}{K:B6}{base yb:Option Addr}{len m mc:Nat}{cs news:List Value} [g:M4 P t e sz bytes]
    (ho:o.op= .call c) (hc:c.callee= .builtin .append) (Il:c.args= #[x,y]) (E5:c.argTypes= #[t,t])
    (hx:ev env x=some (.slice base len len)) (hy:ev env y=some (.slice yb m mc)) (sb:Sl K base cs) (mm:Sl K yb news)
    (Kl:cs.length=len*sz) (FZ:news.length=m*sz) (Gr:0<sz) (Fq:(len+m)*bytes≤35184372088832) (hlen:len+m≤35184372088832):
    DS P [K] n o env fun v own'=>∃h' DN E4,v= .slice DN (len+m) E4/\own'= [h',K]/\C0 [h',K] DN (cs++news):=by
  refine⟨by rw [ho];rfl,fun A w X hA hs=> ?_⟩;obtain⟨i,z,g1,g2,g3,g4,g5,g6⟩:=g.all;subst g5;subst g6;obtain⟨h',DN,E4,w',E0,TA,s3⟩:=Wf (P:=P) (ty:=o.type) (mc:=mc) g1 g2 g3 g4 hs sb mm Kl FZ Gr Fq hlen;refine⟨w',.inl ⟨.slice DN (len+m) E4,[h',K],?_,by simpa using s3,h',DN,E4,rfl,rfl,TA⟩⟩;simp [execOp,ho,resolve,hc,Il,E5,invoke,builtin,hA.eval hx,hA.eval hy,E0]
end
section
variable {P:Program} {r:Option Nat} {F:B6} {n:Nat} {Q:C4} {env:Env} {own rest hs CR:List B6} {ds:List Deferred} {all:Array Oper} {l:List Oper} {o:Oper} {s:List Sg} {an:An} {ml:ML}
theorem Tl{cb:Bool}{m:Nat}{t e:TypeId}{sz bytes:Nat}{cl:Call}{x y:Operand}{K:B6}{base yb:Option Addr}{len mm mc d:Nat}{cs news:List Value} [g:M4 P t e sz bytes]
    (hi:all[m]?=some o) (hd:o.dst=some d) (hg:Cy all env o=some true)
    (ho:o.op= .call cl) (hc:cl.callee= .builtin .append) (Il:cl.args= #[x,y]) (E5:cl.argTypes= #[t,t])
    (hx:ev env x=some (.slice base len len)) (hy:ev env y=some (.slice yb mm mc)) (sb:Sl K base cs) (sa:Sl K yb news) [tk:C1 own [K] rest] {Gj:List B6} [tp:C1 rest CR Gj]
    (Kl:cs.length=len*sz) (FZ:news.length=mm*sz) (Gr:0<sz) (Fq:(len+mm)*bytes≤35184372088832) (hlen:len+mm≤35184372088832)
    (h:∀h' DN E4,C0 [h',K] DN (cs++news)->Du P r F n all CR Q ds s ((d,.slice DN (len+mm) E4)::env) (h'::K::rest) an ml):Du P r F n all CR Q ds (.h cb m::s) env own an ml:=
  OE hi hd hg (Sz ho hc Il E5 hx hy sb sa Kl FZ Gr Fq hlen) (fun _ v own' hR=>by
    obtain⟨h',b',c',rfl,rfl,HT⟩:=hR;exact⟨[h'],List.Perm.swap _ _ _⟩) (fun _=> .inl ⟨Gj,tp.perm⟩) fun v own' hR=>by
    obtain⟨h',b',c',rfl,rfl,HT⟩:=hR;exact⟨_,rfl,h h' b' c' HT⟩
theorem Pw{S:Type}(E:S->Env)(O:S->List B6)(I:S->Prop)(μ:S->Nat){c:Code}(s0:S) [t:C1 own (O s0) rest]
    (he:Sub (E s0) env) (hI:I s0)
    (round:∀s,I s->Db P r F n c (Qj (fun env' own' ay=>own'.Pairwise DM->ay=ds/\∃s',(Sub (E s') env'/\∀w,Sat (F::own') w->Sat (F::O s') w)/\I s'/\μ s'<μ s) Q) (E s) (O s) ds):
    Db P r F n (.loop c) Q env own ds:=by
  refine CH E O I μ s0 he hI fun s hs=> ?_
  have h:=round s hs;intro a w ha hd hs';refine wpIn_mono (h a w ha hd hs') fun e a' w' ⟨he,env',own',h1,h2,h3⟩=>⟨he,env',own',h1,h2,?_⟩
  cases e with
  |normal=>exact h3 h2.tail.dj
  |_=>exact h3
theorem aB{own:List B6}{h k:B6}{rest:List B6}(d:own.Pairwise DM) [t:C1 own [h,k] rest]:DM h k:=by
  have:=(t.perm.pairwise_iff (fun d=>DM.symm d)).1 d;exact(List.pairwise_cons.1 this).1 k Ak
theorem Wo{E:Env}{O:List B6}{h k:B6} [t:C1 own (h::k::O) rest](hs:Sub E env):Sub E env/\∀w,Sat (F::own) w->Sat (F::join h k::O) w:=
  ⟨hs,fun w s=>by
    have s2:Sat ([h,k]++(F::O)) w:=((s.perm (t.perm.cons F)).sub (hs':=F::h::k::O) (List.Sublist.cons_cons F (List.sublist_append_left (h::k::O) rest))).perm (by
      refine(List.Perm.swap _ _ _).trans ((List.Perm.swap _ _ _).cons h))
    have s3:=s2.CB;have e:CB [h,k]=join h k:=by
      funext x
      simp only [CB,join,emp]
      split <;>rename_i q
      · rfl
      · cases k x <;>rfl
    rw [e] at s3
    exact s3.swap⟩
end
def diff(K' K:B6):B6:=fun x=>match K x with|some _=>none|none=>K' x
theorem Lf{K K':B6}{X:List B6}{w:World}(h:hle K K')(s:Sat (K'::X) w):Sat (K::diff K' K::X) w:=by
  obtain⟨d1,d2⟩:=List.pairwise_cons.1 s.dj;have hd:hle (diff K' K) K':=fun b o e=>by
    unfold diff at e;split at e
    · cases e
    · exact e
  have hK':hle K' (wh w):=s.le K' (List.mem_cons_self ..);refine⟨fun k hk=> ?_,List.pairwise_cons.2 ⟨fun k hk=> ?_,List.pairwise_cons.2 ⟨fun k hk b o o' x y=>d1 k hk b o o' (hd b o x) y,d2⟩⟩⟩
  · rcases List.mem_cons.1 hk with rfl|hk
    · exact h.trans hK'
    · rcases List.mem_cons.1 hk with rfl|hk
      · exact hd.trans hK'
      · exact s.le k (List.mem_cons_of_mem _ hk)
  · rcases List.mem_cons.1 hk with rfl|hk
    · intro b o o' x y;simp only [diff,x] at y;cases y
    · exact fun b o o' x y=>d1 k hk b o o' (h b o x) y
theorem SK{K K' K2:B6}(h1:hle K K2)(h2:hle (diff K' K) K2)(h:hle K K'):hle K' K2:=fun b o e=>by
  cases hk:K b with
  | some o'=>
    have:=h b o' hk;rw [e] at this;cases this
    exact h1 b _ hk
  |none=>exact h2 b o (by simp only [diff,hk];exact e)
theorem dy{P:Program}{f:FuncId}{args:List Value}{K:B6}{R:Ending->B6->List B6->Prop}
    (h:T P f args [K] fun e o=>∃K' rest,o=K'::rest/\hle K K'/\R e K' rest):T P f args [K] fun e o=>∃Kn rest K',o=K::Kn::rest/\(∀K2,hle K K2->hle Kn K2->hle K' K2)/\R e K' rest:=by
  intro w X s;refine(h w X s).mono ?_;rintro e w' ⟨o,s2,K',rest,rfl,hK,hR⟩;exact⟨K::diff K' K::rest,by simpa using Lf hK s2,diff K' K,rest,K',rfl,fun K2 h1 h2=>SK h1 h2 hK,hR⟩
theorem dx{P:Program}{f:FuncId}{args:List Value}{K K2:B6}{Q:Ending->B6->Prop}(hq:∀e A B,hle A B->Q e A->Q e B)
    (h:T P f args [K] fun e o=>∃K',o= [K']/\hle K K'/\Q e K') (hk:hle K K2):T P f args [K2] fun e o=>∃K',o= [K']/\hle K2 K'/\Q e K':=by
  intro w X s;have s1:Sat ([K]++(diff K2 K::X)) w:=by simpa using Lf hk (by simpa using s)
  refine(h w (diff K2 K::X) s1).mono ?_;rintro e w' ⟨o,s2,K',rfl,hK,hQ⟩;have s3:Sat ([K',diff K2 K]++X) w':=by simpa using s2
  have dj:DM K' (diff K2 K):=(List.pairwise_cons.1 s3.dj).1 _ Ak;have l1:hle K' (CB [K',diff K2 K]):=DV (List.pairwise_append.1 s3.dj).1 Ak;have l2:hle (diff K2 K) (CB [K',diff K2 K]):=DV (List.pairwise_append.1 s3.dj).1 Ak;refine⟨[CB [K',diff K2 K]],by simpa using s3.CB,_,rfl,fun b o e=> ?_,hq _ _ _ l1 hQ⟩;cases hb:K b with
  | some o'=>
    have:=hk b o' hb;rw [e] at this;cases this
    exact l1 b _ (hK b _ hb)
  |none=>exact l2 b o (by simp only [diff,hb];exact e)
section
variable {own rest:List B6} {F:B6} {env:Env}
theorem T8{E:Env}{O:List B6}{h g k:B6} [t:C1 own (h::g::k::O) rest](hs:Sub E env):Sub E env/\∀w,Sat (F::own) w->Sat (F::join h (join g k)::O) w:=
  ⟨hs,fun w s=>by
    have s2:Sat ([h,g,k]++(F::O)) w:=((s.perm (t.perm.cons F)).sub (hs':=F::h::g::k::O) (List.Sublist.cons_cons F (List.sublist_append_left (h::g::k::O) rest))).perm (by
      exact(List.perm_append_comm (l₁:= [F]) (l₂:= [h,g,k])).append_right O)
    have s3:=s2.CB;have e:CB [h,g,k]=join h (join g k):=by
      funext x
      simp only [CB,join,emp]
      split <;>rename_i q
      · rfl
      · split <;>rename_i q2
        · rfl
        · cases k x <;>rfl
    rw [e] at s3
    exact s3.swap⟩
theorem fC{h g k:B6}(d:own.Pairwise DM) [t:C1 own [h,g,k] rest]:DM h g/\DM h k/\DM g k:=by
  have d2:=(t.perm.pairwise_iff (fun d=>DM.symm d)).1 d;obtain⟨d3,d4⟩:=List.pairwise_cons.1 d2;exact⟨d3 g Ak,d3 k Ak,(List.pairwise_cons.1 d4).1 k Ak⟩
end
end Go.SL
end
section
namespace Go.SL
section
variable {P:Program} {r:Option Nat} {F:B6} {n:Nat} {CR:List B6} {Q:C4} {env:Env} {own rest hs Hn Fg:List B6} {ds:List Deferred} {all:Array Oper} {s:List Sg} {o:Oper} {id:Nat} {an:An} {ml:ML}
theorem R7{t:TypeId}(ho:o.op= .makeMap t none):Kt P n o env (fun b=> .map (some b)) (.map #[] 0):=
  ⟨by rw [ho];rfl,fun _=>rfl,fun a w _=>by simp [execOp,ho,Instr.makeMap]⟩
theorem di{i j d:Nat}{t kt et:TypeId}{k x:Operand}{z:Int}{v zm zk:Value}{im ik:TypeInfo}{vf:Nat->Value} [h1:Ty P t (.map kt et) zm im] [h2:Ty P kt (.int .i64) zk ik]
    (hi:all[i]?=some o) (ho:o.op= .insert t (.tmp d) k x) (hd:o.dst=none) (hg:o.guard=none) (hj:(all[j]?).bind (·.dst)=some d) (iC:(all.toList.zipIdx.all fun p=> !(p.1.dst ==some d) ||Nat.beq p.2 j)=true)
    (hk:k≠ .tmp d) (hx:x≠ .tmp d) (ek:ev env k=some (.int .i64 z)) (ex:ev env x=some v) (ha:an j=some (vf,.map #[] 0)) (iq:∀b,vf b= .map (some b)) (Ke:(ml.all fun p=> !(p.2.2.1 ==z))=true)
    (h:Du P r F n all CR Q ds s env own an ((i,j,z,v)::ml)):Du P r F n all CR Q ds (.fi i j::s) env own an ml:=by
  refine⟨z,v,⟨o,t,d,k,x,kt,et,vf,hi,ho,hd,hg,hj,?_,hk,hx,ek,ex,h1.u,h2.u,fun w=>Gv h2.u false w,ha,iq,?_⟩,h⟩
  · intro l hl;cases hl':all[l]? with
    |none=>rw [hl'] at hl;cases hl
    | some o'=>
      rw [hl'] at hl
      simp only [Option.bind_some] at hl
      have hm:(o',l)∈all.toList.zipIdx:=by
        rw [List.mem_zipIdx_iff_getElem?];simpa using hl'
      have:=List.all_eq_true.1 iC _ hm;simp only [hl,beq_self_eq_true,Bool.not_true,Bool.false_or] at this
      exact Nat.eq_of_beq_eq_true this
  · intro l fD Xd aR hl;have aux:∀(ml:ML),(ml.all fun p=> !(p.2.2.1 ==z))=true->Pq ml l=some (j,fD,Xd,aR)->∃z',z'≠z/\fD= .int .i64/\Xd= .int .i64 z':=by
      intro ml;induction ml with
      |nil=>intro _ h;cases h
      | cons p ml ih=>
        obtain⟨i',j',z',v'⟩:=p;intro Et h;simp only [List.all_cons,Bool.and_eq_true,Bool.not_eq_true',beq_eq_false_iff_ne] at Et
        simp only [Pq,O6] at h
        split at h
        · simp only [Option.some.injEq,Prod.mk.injEq] at h
          obtain⟨-,rfl,rfl,rfl⟩:=h;exact⟨z',Et.1,rfl,rfl⟩
        · exact ih Et.2 h
    obtain⟨z',hz,rfl,rfl⟩:=aux ml Ke hl;constructor <;>simp [Instr.sameNow,hz,Ne.symm hz]
def YM:ML->Nat->Int->Option Value
  | [],_,_=>none
  |(_,j,z,v)::r,m,y=>if j=m then(if y=z then some v else YM r m y) else YM r m y
def QL(N:Nat):ML->Bool
  | []=>true
  |(i,j,z,_)::r=>Nat.blt i N && (r.all fun p=> !Nat.beq p.1 i) && (r.all fun p=> !Nat.beq p.2.1 j || !(p.2.2.1 ==z)) && QL N r
theorem Oy{N:Nat}:∀ {ml:ML},QL N ml=true->∀k j dd kv v,Pq ml k=some (j,dd,kv,v)↔∃z,(k,j,z,v)∈ml/\dd= .int .i64/\kv= .int .i64 z
  | [],_,k,j,dd,kv,v=>by simp [Pq]
  | (i, j',z',v')::r,h,k,j,dd,kv,v=>by
    simp only [QL,Bool.and_eq_true] at h
    obtain⟨⟨⟨-,h2⟩, -⟩,h4⟩:=h;have ih:=Oy h4 k j dd kv v;simp only [Pq,O6];by_cases e:k=i
    · subst e;rw [if_pos rfl];constructor
      · intro h;simp only [Option.some.injEq,Prod.mk.injEq] at h
        obtain⟨rfl,rfl,rfl,rfl⟩:=h;exact⟨z',List.mem_cons_self ..,rfl,rfl⟩
      · rintro⟨z,hm,rfl,rfl⟩;rcases List.mem_cons.1 hm with hm|hm
        · simp only [Prod.mk.injEq,true_and] at hm
          obtain⟨rfl,rfl,rfl⟩:=hm;rfl
        · have:=List.all_eq_true.1 h2 _ hm;simp at this
    · rw [if_neg e,ih];constructor
      · rintro⟨z,hm,h1⟩;exact⟨z,List.mem_cons_of_mem _ hm,h1⟩
      · rintro⟨z,hm,h1⟩;rcases List.mem_cons.1 hm with hm|hm
        · simp only [Prod.mk.injEq] at hm;exact absurd hm.1 e
        · exact⟨z,hm,h1⟩
theorem Vk{N:Nat}:∀ {ml:ML},QL N ml=true->∀p∈ml,p.1<N
  | [],_,p,hp=>by cases hp
  | (i,j',z',v')::r,h,p,hp=>by
    simp only [QL,Bool.and_eq_true] at h
    rcases List.mem_cons.1 hp with rfl|hp
    · exact Nat.le_of_ble_eq_true h.1.1.1
    · exact Vk h.2 p hp
theorem Q5{N:Nat}:∀ {ml:ML},QL N ml=true->∀j z v,YM ml j z=some v↔∃k,(k,j,z,v)∈ml
  | [],_,j,z,v=>by simp [YM]
  | (i, j',z',v')::r,h,j,z,v=>by
    simp only [QL,Bool.and_eq_true] at h
    obtain⟨⟨-,h3⟩,h4⟩:=h;have ih:=Q5 h4 j z v;have dQ:∀k u,(k,j',z',u)∈r->False:=fun k u hm=>by
      have:=List.all_eq_true.1 h3 _ hm;simp at this
    simp only [YM];by_cases e:j'=j
    · subst e;rw [if_pos rfl];by_cases e2:z=z'
      · subst e2;rw [if_pos rfl];constructor
        · intro h;cases h;exact⟨i,List.mem_cons_self ..⟩
        · rintro⟨k,hm⟩;rcases List.mem_cons.1 hm with hm|hm
          · simp only [Prod.mk.injEq,true_and] at hm;rw [hm.2]
          · exact(dQ k v hm).elim
      · rw [if_neg e2,ih];constructor
        · rintro⟨k,hm⟩;exact⟨k,List.mem_cons_of_mem _ hm⟩
        · rintro⟨k,hm⟩;rcases List.mem_cons.1 hm with hm|hm
          · simp only [Prod.mk.injEq,true_and] at hm;exact absurd hm.2.1 e2
          · exact⟨k,hm⟩
    · rw [if_neg e,ih];constructor
      · rintro⟨k,hm⟩;exact⟨k,List.mem_cons_of_mem _ hm⟩
      · rintro⟨k,hm⟩;rcases List.mem_cons.1 hm with hm|hm
        · simp only [Prod.mk.injEq] at hm;exact absurd hm.2.1.symm e
        · exact⟨k,hm⟩
theorem YO{en:En}{N j:Nat}{kv xv:Value}:(kv,xv)∈Fj en (fun _=>true) N j↔∃k,k<N/\∃dd,en k=some (j,dd,kv,xv):=by
  unfold Fj;rw [List.mem_filterMap];constructor
  · rintro⟨k,hk,h⟩;refine⟨k,List.mem_range.1 hk,?_⟩;cases e:en k with
    |none=>rw [e] at h;cases h
    | some q=>
      obtain⟨j',dd,Xd,aR⟩:=q;rw [e] at h
      simp only at h
      split at h
      · rename_i hj;subst hj;cases h;exact⟨dd,rfl⟩
      · cases h
  · rintro⟨k,hk,dd,h⟩;exact⟨k,List.mem_range.2 hk,by rw [h];simp⟩
theorem N5{k:IntKind}{z:Int}{v:Value}:∀ {es:List MapEntry},H3 k es->Fz es z=some v->∃e∈es,e.key= .int k z/\e.val=v
  | [],_,h=>by cases h
  | e::es,hk,h=>by
    obtain⟨a,ha⟩:=hk e (List.mem_cons_self ..);simp only [Fz,ha] at h
    split at h
    · rename_i hz;subst hz;cases h;exact⟨e,List.mem_cons_self ..,ha,rfl⟩
    · obtain⟨e',h1,h2⟩:=N5 (fun x hx=>hk x (List.mem_cons_of_mem _ hx)) h;exact⟨e',List.mem_cons_of_mem _ h1,h2⟩
theorem N7{k:IntKind}{z:Int}:∀ {es:List MapEntry},H3 k es->Fz es z=none->∀e∈es,e.key≠ .int k z
  | [],_,_,e,he=>by cases he
  | e ::es,hk,h,e',he=>by
    obtain⟨a,ha⟩:=hk e (List.mem_cons_self ..);simp only [Fz,ha] at h
    split at h
    · cases h
    · rename_i hz
      rcases List.mem_cons.1 he with rfl|he
      · rw [ha];intro e;cases e;exact hz rfl
      · exact N7 (fun x hx=>hk x (List.mem_cons_of_mem _ hx)) h e' he
theorem cy{ml:ML}{N j b:Nat}{ob:Obj}(Jf:QL N ml=true)(hf:M6 (Fj (Pq ml) (fun _=>true) N j) (.map #[] 0) ob):MP (Co b ob) b .i64 (YM ml j):=by
  obtain⟨es,JH,rfl,hp⟩:=hf;simp only [List.map_nil,List.nil_append] at hp
  have hmem:∀kv v,(∃e∈es.toList,e.key=kv/\e.val=v)↔∃z,kv= .int .i64 z/\YM ml j z=some v:=by
    intro kv v;have h1:(∃e∈es.toList,e.key=kv/\e.val=v)↔(kv,v)∈es.toList.map fun e=>(e.key,e.val):=by
      rw [List.mem_map];constructor
      · rintro⟨e,he,rfl,rfl⟩;exact⟨e,he,rfl⟩
      · rintro⟨e,he,h⟩;cases h;exact⟨e,he,rfl,rfl⟩
    rw [h1,hp.mem_iff,YO];constructor
    · rintro⟨k,hk,dd,h⟩;obtain⟨z,hm,rfl,rfl⟩:=(Oy Jf _ _ _ _ _).1 h;exact⟨z,rfl,(Q5 Jf _ _ _).2 ⟨k,hm⟩⟩
    · rintro⟨z,rfl,h⟩;obtain⟨k,hm⟩:=(Q5 Jf _ _ _).1 h;exact⟨k,Vk Jf _ hm,_,(Oy Jf _ _ _ _ _).2 ⟨z,hm,rfl,rfl⟩⟩
  have hik:H3 .i64 es.toList:=fun e he=>by
    obtain⟨z,h, -⟩:=(hmem e.key e.val).1 ⟨e,he,rfl,rfl⟩;exact⟨z,h⟩
  refine⟨es,JH,rfl,hik,fun z=> ?_⟩;cases h:Fz es.toList z with
  | some v=>
    obtain⟨e,he,h1,h2⟩:=N5 hik h;obtain⟨z',hz,hv⟩:=(hmem _ _).1 ⟨e,he,h1,h2⟩;cases hz;exact hv.symm
  | none=>
    cases hv:YM ml j z with
    |none=>rfl
    | some v=>
      obtain⟨e,he,h1,h2⟩:=(hmem _ _).2 ⟨z,rfl,hv⟩;exact absurd h1 (N7 hik h e he)
theorem aF{i d:Nat}{vf:Nat->Value}(hi:all[i]?=some o)(hd:o.dst=some d)(ha:an i=some (vf,.map #[] 0))(iq:∀b,vf b= .map (some b))(Jf:QL all.size ml=true)
    (h:∀b hM,MP hM b .i64 (YM ml i)->Du P r F n all CR Q ds s ((d,.map (some b))::env) (hM::own) an ml):Du P r F n all CR Q ds (.rv i::s) env own an ml:=by
  refine⟨vf,_,ha,fun b Wm hf=> ?_⟩;have:HN all i (vf b) env=(d,.map (some b))::env:=by simp only [HN,hi,Option.bind_some,hd,iq]
  rw [this];exact h b _ (cy Jf hf)
end
end Go.SL
end
section
namespace Go.SL
section
variable {P:Program} {r:Option Nat} {F:B6} {n:Nat} {env:Env} {own rest:List B6} {ds:List Deferred}
end
end Go.SL
end
section
namespace Go.SL
section
variable {P:Program} {r:Option Nat} {F:B6} {n:Nat} {Q:C4} {env:Env} {own rest hs CR:List B6} {ds:List Deferred} {all:Array Oper} {l:List Oper} {o:Oper} {s:List Sg} {an:An} {ml:ML}
end
section
variable {P:Program} {own:List B6} {n:Nat} {env:Env} {o:Oper}
theorem TX{t e:TypeId}{p:Option Addr}(hu:P.underlying t=some (.pointer e))(w:World):(Op.equal t (.pointer p) (.pointer none)).run P w= .ok p.isNone w:=by
  have h:(Op.equalIn 10000 t (.pointer p) (.pointer none)).run P w= .ok p.isNone w:=by
    rw [show(10000:Nat)=9999+1 from rfl,Op.equalIn];cases p <;>simp [CL hu]
  exact h
theorem KH{t e u:TypeId}{x:Operand}{z:Value}{i:TypeInfo}{p:Option Addr} [h1:Ty P t (.pointer e) z i](ho:o.op= .binOp .neq t x (.const (.pointer none)) u)(hx:ev env x=some (.pointer p)):Dc P own n o env (.bool (!p.isNone)):=
  De (by rw [ho];rfl) fun c w ha=>by
    have hy:c.eval (.const (.pointer none))= .pointer none:=rfl;have hg:∀w,(eqGuard .neq t x (.const (.pointer none)) (.pointer p) (.pointer none)).run P w= .ok () w:=fun w=>by simp [eqGuard]
    simp only [execOp,ho,ha.eval hx,hy];simp [hg,binOp,TX h1.u]
end
end Go.SL
end
section
namespace Go.SL
theorem Ea{P:Program}{r:Option Nat}{F:B6}{n:Nat}{Q:C4}{env:Env}{own:List B6}{ds:List Deferred}(k:Nat){l:Array Oper}{d:Bool}{c1:Code}(h:Db P r F n ((Code.region k l d).seq c1) Q env own ds):Db P r F n ((Code.region k l d).seq c1) Q env own ds:=h
end Go.SL
end
section
namespace Go.SL
end Go.SL
end
section
namespace Go.SL
theorem P4{P:Program}{n:Nat}{o:Oper}{env:Env}{t t2 e:TypeId}{c:Call}{x y:Operand}{b off:Nat}{b2:Addr}{len cap n2 c2 sz m:Nat}{own:List B6}{cs src:List Value}{T:TypeId} [g:Ns P t e sz]
    (iu:∀(w:World) (X:List B6),Sat (Co b (.cells ⟨cs⟩ T (0,0))::(own++X)) w->∀j v,src[j]?=some v->w.cell? (b2.add j)=some v)
    (hm:Nat.min n2 len=m) (TA:src.length=m*sz) (Eh:off+m*sz≤cs.length) (h1:src.all (·.oneCell')=true)
    (ho:o.op= .call c) (hc:c.callee= .builtin .copy) (Il:c.args= #[x,y]) (E5:c.argTypes= #[t,t2]) (hx:ev env x=some (.slice (some ⟨b,off,none⟩) len cap)) (hy:ev env y=some (.slice (some b2) n2 c2)):
    DS P (Co b (.cells ⟨cs⟩ T (0,0))::own) n o env fun v own'=>v= .int .i64 (m:Int)/\own'=Co b (.cells ⟨cs.take off++src++cs.drop (off+m*sz)⟩ T (0,0))::own:=by
  refine⟨by rw [ho];rfl,fun a w X ha hs=> ?_⟩;have s1:Sat (Co b (.cells ⟨cs⟩ T (0,0))::(own++X)) w:=by simpa using hs
  have hb:w.heap[b]?=some (.cells ⟨cs⟩ T (0,0)):=s1.at (List.mem_cons_self ..) (CT _ _);have FB:=run_storeCells_at P b off T src 0 ⟨cs⟩ w hb Aq (by simpa using h1)
  let arr':Array Value:=((⟨cs⟩:Array Value).toList.take (off+0)++src++(⟨cs⟩:Array Value).toList.drop (off+0+src.length)).toArray
  have hfc:(Builtin.firstCells sz m (.slice (some b2) n2 c2)).run P w= .ok src.toArray w:=
    run_firstCells_some (P:=P) w sz m b2 n2 c2 src (TA) fun j v hj=>iu w X s1 j v hj
  have E0:(execOp a.eval o).run P w= .ok (.value (.int .i64 (m:Int))) (w.setRow b arr'):=by
    simp only [execOp,ho];simp [resolve,hc,Il,E5,invoke,builtin,Builtin.copy_,ha.eval hx,ha.eval hy,CL g.u,Builtin.lenOf,goInt,g.s];rw [hm,hfc];simp only [Result.andThen];rw [FB]
  have e1:arr'=⟨cs.take off++src++cs.drop (off+m*sz)⟩:=by simp [arr',TA]
  refine⟨w.setRow b arr',.inl ⟨_,Co b (.cells arr' T (0,0))::own,E0,?_,rfl,by rw [e1]⟩⟩;have s2:=s1.put (setRow_heap w b _ arr' T (0,0) hb) As As (fun k hk=>setRow_other w b k _ hk) (fun _=>rfl);simpa using s2
theorem V6{b:Nat}{b2:Addr}{cs src:List Value}{T:TypeId}{k:B6}{own:List B6}(sl:Sl k (some b2) src)(hk:k∈own)(w:World)(X:List B6)(s:Sat (Co b (.cells ⟨cs⟩ T (0,0))::(own++X)) w)(j:Nat)(v:Value)(hj:src[j]?=some v):w.cell? (b2.add j)=some v:=by
  obtain⟨a',fJ,T3,ki,p1,p2,p3,p4⟩:=sl.cell j v hj;cases p1;obtain⟨bb,o2,sp⟩:=b2;obtain rfl:sp=none:=p2;have:=s.at (List.mem_cons_of_mem _ (List.mem_append_left X hk)) p3;have e:Addr.add ⟨bb,o2,none⟩ j=⟨bb,o2+j,none⟩:=by simp [Addr.add]
  rw [e,Gf this];exact p4
theorem Xy{b o2:Nat}{cs src:List Value}{T:TypeId}{own:List B6}(hs:∀j v,src[j]?=some v->cs[o2+j]?=some v)(w:World)(X:List B6)(s:Sat (Co b (.cells ⟨cs⟩ T (0,0))::(own++X)) w)(j:Nat)(v:Value)(hj:src[j]?=some v):w.cell? ((⟨b,o2,none⟩:Addr).add j)=some v:=by
  have:=s.at (List.mem_cons_self ..) (CT b (.cells ⟨cs⟩ T (0,0)));have e:Addr.add ⟨b,o2,none⟩ j=⟨b,o2+j,none⟩:=by simp [Addr.add]
  rw [e,Gf this];simpa using hs j v hj
section
variable {P:Program} {r:Option Nat} {F:B6} {n:Nat} {Q:C4} {env:Env} {own rest hs CR:List B6} {ds:List Deferred} {all:Array Oper} {l:List Oper} {o:Oper} {s:List Sg} {an:An} {ml:ML}
theorem NH{d:Nat}{t t2 e:TypeId}{c:Call}{x y:Operand}{b off:Nat}{b2:Addr}{len cap n2 c2 sz m:Nat}{k:B6}{cs src cs':List Value}{T:TypeId} [g:Ns P t e sz]
    (hd:o.dst=some d) (ag:Nat.blt d n=true) (hg:Cy all env o=some true) (ho:o.op= .call c) (hc:c.callee= .builtin .copy) (Il:c.args= #[x,y]) (E5:c.argTypes= #[t,t2]) (hx:ev env x=some (.slice (some ⟨b,off,none⟩) len cap)) (hy:ev env y=some (.slice (some b2) n2 c2))
    [tk:C1 own [Co b (.cells ⟨cs⟩ T (0,0)),k] rest] (sl:Sl k (some b2) src) (hm:Nat.min n2 len=m) (TA:src.length=m*sz) (Eh:off+m*sz≤cs.length) (h1:src.all (·.oneCell')=true) (L2:cs.take off++src++cs.drop (off+m*sz)=cs')
    (next:C6 false P r F n all l Q ((d,.int .i64 (m:Int))::env) (Co b (.cells ⟨cs'⟩ T (0,0))::k::rest) ds):C6 false P r F n all (o::l) Q env own ds:=
  KB hd ag hg (P4 (own:= [k]) (V6 sl (List.mem_cons_self ..)) hm TA Eh h1 ho hc Il E5 hx hy) fun v' own' hR=>by
    obtain⟨rfl,rfl⟩:=hR;rw [L2];exact⟨_,rfl,next⟩
theorem WZ{m0 d:Nat}{t t2 e:TypeId}{c:Call}{x y:Operand}{b off o2:Nat}{len cap n2 c2 sz m:Nat}{cs src cs':List Value}{T:TypeId} [g:Ns P t e sz]
    (hi:all[m0]?=some o) (hd:o.dst=some d) (hg:Cy all env o=some true) (ho:o.op= .call c) (hc:c.callee= .builtin .copy) (Il:c.args= #[x,y]) (E5:c.argTypes= #[t,t2]) (hx:ev env x=some (.slice (some ⟨b,off,none⟩) len cap)) (hy:ev env y=some (.slice (some ⟨b,o2,none⟩) n2 c2))
    [tk:C1 own [Co b (.cells ⟨cs⟩ T (0,0))] rest] {Gj:List B6} [tp:C1 rest CR Gj] (hs:∀j v,src[j]?=some v->cs[o2+j]?=some v) (hm:Nat.min n2 len=m) (TA:src.length=m*sz) (Eh:off+m*sz≤cs.length) (h1:src.all (·.oneCell')=true) (L2:cs.take off++src++cs.drop (off+m*sz)=cs')
    (next:Du P r F n all CR Q ds s ((d,.int .i64 (m:Int))::env) (Co b (.cells ⟨cs'⟩ T (0,0))::rest) an ml):Du P r F n all CR Q ds (.h true m0::s) env own an ml:=
  OE hi hd hg (P4 (own:= []) (Xy hs) hm TA Eh h1 ho hc Il E5 hx hy) Mn (fun _=> .inl ⟨Gj,tp.perm⟩) fun v' own' hR=>by
    obtain⟨rfl,rfl⟩:=hR;rw [L2];exact⟨_,rfl,next⟩
end
end Go.SL
end
section
namespace Go.SL
theorem Vx(zs:List Value)(hp:0<zs.length):∀(m j:Nat),((List.replicate m zs).flatten)[j]?=if j<m*zs.length then zs[j%zs.length]? else none
  |0,j=>by simp
  | m +1,j=>by
    rw [List.replicate_succ,List.flatten_cons];by_cases h:j<zs.length
    · rw [List.getElem?_append_left h,if_pos (by rw [Nat.succ_mul];omega),Nat.mod_eq_of_lt h]
    · rw [List.getElem?_append_right Ab,Vx zs hp m,<-Nat.mod_eq_sub_mod Ab];by_cases h2:j<(m+1)*zs.length
      · rw [if_pos h2,if_pos (by rw [Nat.succ_mul] at h2;omega)]
      · rw [if_neg h2,if_neg (by rw [Nat.succ_mul] at h2;omega)]
theorem N1{P:Program}{n:Nat}{env:Env}{o:Oper}{t e:TypeId}{sz bytes m:Nat}{x y:Operand}{zv:Value}{zs:List Value}{de:TypeDesc}{ti:TypeInfo} [g:M4 P t e sz bytes] [z:Ty P e de zv ti]
    (ho:o.op= .makeSlice t x y) (hx:ev env x=some (.int .i64 (m:Int))) (hy:ev env y=some (.int .i64 (m:Int)))
    (hz:D9 zv=some zs) (hs:zs.length=sz) (hp:0<sz) (Fq:m*bytes≤70368744177664) (hm:m≤70368744177664):
    Kt P n o env (fun b=> .slice (some ⟨b,0,none⟩) m m) (.cells ⟨(List.replicate m zs).flatten⟩ e (0,0)):=by
  refine⟨by rw [ho];rfl,fun _=>by simp [Ou],fun A w hA=> ?_⟩;obtain⟨i,z',g1,g2,g3,g4,g5,g6⟩:=g.all;subst g6;have wl:IntKind.i64.wrap (m:Int)=m:=C8 Ab Ab;have hb:¬(281474976710656<(i.bytes:Int)*m):=by
    have:(i.bytes:Int)*m=((m*i.bytes:Nat):Int):=by rw [Int.natCast_mul,Int.mul_comm]
    omega
  have hn':¬((m:Int)<0):=by omega
  have hroom':∀w:World,(askRoom (m*i.bytes)).run P w= .ok () w:=fun w=>by unfold askRoom;split <;>simp
  have P0:zv.cells=⟨zs⟩:=EB hz;have hzz:((Array.range (m*sz)).map fun x=>zv.cells[x%zv.cells.size]!)=⟨(List.replicate m zs).flatten⟩:=by
    rw [P0];apply Array.ext';apply List.ext_getElem?;intro j;show _=((List.replicate m zs).flatten)[j]?;rw [Vx zs Ab,hs];by_cases hj:j<m*sz
    · rw [if_pos hj];have h2:j%sz<zs.length:=by rw [hs];exact Nat.mod_lt _ hp
      have e3:zs[j%sz]?=some zs[j%sz]:=List.getElem?_eq_getElem h2;simp [hj,hs,e3]
    · rw [if_neg hj];simp [hj]
  have hzn:∀w,(zeroValue e).run P w= .ok zv w:=fun w=>z.z w
  by_cases h0:m=0
  · subst h0;simp [execOp,ho,hA.eval hx,hA.eval hy,Instr.makeSlice,CL g1,asInt,asIntOf,HE g2,DO g2,g5,newRow,askRoom,IntKind.wrap,IntKind.bits,IntKind.signed,show(Array.range 0).map (fun(_:Nat)=>(default:Value))=⟨[]⟩ by simp]
  · have h0':¬(m*sz=0):=fun h=>by
      rcases Nat.mul_eq_zero.1 h with h|h <;>omega
    simp [execOp,ho,hA.eval hx,hA.eval hy,Instr.makeSlice,CL g1,asInt,asIntOf,HE g2,wl,hb,hn',hroom',DO g2,g5,h0',newRow,hzn,hzz]
section
variable {P:Program} {r:Option Nat} {F:B6} {n:Nat} {Q:C4} {env:Env} {own rest hs CR:List B6} {ds:List Deferred} {all:Array Oper} {l:List Oper} {o:Oper}
theorem Gt{d:Nat}{vf:Nat->Value}{ob:Obj}(hd:o.dst=some d)(ag:Nat.blt d n=true)(hg:Cy all env o=some true)(hn:Kt P n o env vf ob)
    (next:∀b,C6 false P r F n all l Q ((d,vf b)::env) (Co b ob::own) ds):C6 false P r F n all (o::l) Q env own ds:=by
  obtain⟨h1,h2,h3⟩:=hn;refine IG hd ag hg h1 fun A w hA hs=> ?_
  exact⟨vf w.heap.size,{w with heap:=w.heap.push ob},Co w.heap.size ob::own,h3 A w hA,(D4 hs _ h2).swap,next _⟩
end
end Go.SL
end
section
namespace Go.SL
section
variable {P:Program} {r:Option Nat} {F:B6} {n:Nat} {CR:List B6} {Q:C4} {env:Env} {own rest hs:List B6} {ds:List Deferred} {all:Array Oper} {s:List Sg} {o:Oper} {an:An} {ml:ML}
theorem Fx{m d:Nat}{cl:Call}{x:Operand}{f:FuncId}{first captured:Array Value}{vs EL:List Value}{R:Ending->List B6->Prop} [Enters P f]
    (hi:all[m]?=some o) (hd:o.dst=some d) (hg:Cy all env o=some true) [t:C1 own hs rest]
    (ho:o.op= .call cl) (hc:cl.callee= .value x) (hx:ev env x=some (.func (.func f) first captured)) (IV:MU env cl.args.toList=some vs)
    (Et:JK first.toList vs captured.toList=some EL) (hp:T P f EL hs R) {Gj:List B6} [tp:C1 rest CR Gj]
    (h:∀(e:Ending) (own':List B6),R e own'->∃v CN,e= .returned v/\Ht own' rest=some CN/\Du P r F n all CR Q ds s ((d,v)::env) CN an ml):Du P r F n all CR Q ds (.h true m::s) env own an ml:=
  OE hi hd hg (bk ho hc hx IV Et hp fun e own' hR=>by obtain⟨v,_,h1,_⟩:=h e own' hR;exact⟨v,h1⟩)
    (fun h=>by cases h) (fun _=> .inl ⟨Gj,tp.perm⟩) fun v own' hR=>by
    obtain⟨v',CN,h1,h2,h3⟩:=h _ _ hR;cases h1;exact⟨CN,h2,h3⟩
end
end Go.SL
end
section
namespace Go.SL
section
variable {P:Program} {r:Option Nat} {F:B6} {n:Nat} {CR:List B6} {Q:C4} {env:Env} {own rest hs Hn Fg:List B6} {ds:List Deferred} {all:Array Oper} {s:List Sg} {o:Oper} {id:Nat} {an:An} {ml:ML}
theorem cX{c:Call}{x:Operand}{f:FuncId}{first captured:Array Value}{vs EL:List Value}{hs:List B6}{R:Ending->List B6->Prop} [Enters P f]
    (ho:o.op= .call c) (hc:c.callee= .value x) (hx:ev env x=some (.func (.func f) first captured)) (IV:MU env c.args.toList=some vs)
    (YF:JK first.toList vs captured.toList=some EL) (h:T P f EL hs R) (cT:∀e own',R e own'->(∃v,e= .returned v)∨∃ch,e= .panicked ch):
    Zf P hs n o env (fun v own'=>R (.returned v) own') (fun ch own'=>R (.panicked ch) own'):=by
  have Et:=Nq YF;refine⟨by rw [ho];rfl,fun a w X ha hS=>⟨w,.inr (.inr (.inl ⟨f,_,Li ha ho hc hx IV w,?_⟩))⟩⟩;have e:first++vs.toArray++captured=EL.toArray:=by rw [<-Et];simp
  rw [e];refine(h w X hS).mono ?_;rintro e w' ⟨own',s2,hR⟩;rcases cT e own' hR with ⟨v,rfl⟩|⟨ch,rfl⟩
  · exact .inl ⟨v,own',rfl,s2,hR⟩
  · exact .inr ⟨ch,own',rfl,s2,hR⟩
theorem Kq{c:Bool}{m d:Nat}{cl:Call}{x:Operand}{f:FuncId}{first captured:Array Value}{vs EL:List Value}{R:Ending->List B6->Prop} [Enters P f]
    (hi:all[m]?=some o) (hd:o.dst=some d) (hg:Cy all env o=some true)
    (ho:o.op= .call cl) (hc:cl.callee= .value x) (hx:ev env x=some (.func (.func f) first captured)) (IV:MU env cl.args.toList=some vs)
    (Et:JK first.toList vs captured.toList=some EL) [t:C1 own hs rest] (hp:T P f EL hs R)
    (c9:c=false->∀e own',R e own'->∃N,own'.Perm (hs++N)) (eX:c=true->(∃Y,rest.Perm (CR++Y))∨N9 all m=true)
    (h:∀e own',R e own'->(∃v CN,e= .returned v/\Ht own' rest=some CN/\Du P r F n all CR Q ds s ((d,v)::env) CN an ml)∨(∃ch CN,e= .panicked ch/\Ht own' rest=some CN/\Q (.panic ch) [] CN ds)):Du P r F n all CR Q ds (.h c m::s) env own an ml:=by
  refine⟨o,hs,rest,_,_,hi,t.perm,.inl ⟨hg,cX ho hc hx IV Et hp fun e own' hR=> ?_⟩,fun hc v own' hR=>c9 hc _ own' hR,eX,fun v own' hR=> ?_,fun ch own' hR=> ?_⟩
  · rcases h e own' hR with ⟨v,_,h1,_⟩|⟨ch,_,h1,_⟩
    · exact .inl ⟨v,h1⟩
    · exact .inr ⟨ch,h1⟩
  · rcases h _ own' hR with ⟨v',CN,h1,h2,h3⟩|⟨ch,_,h1,_⟩
    · cases h1
      have:HN all m v env=(d,v)::env:=by simp only [HN,hi,Option.bind_some,hd]
      rw [this,<-Fk h2];exact h3
    · cases h1
  · rcases h _ own' hR with ⟨v',CN,h1,h2,h3⟩|⟨ch',CN,h1,h2,h3⟩
    · cases h1
    · cases h1;rw [<-Fk h2];exact h3
end
end Go.SL
end
