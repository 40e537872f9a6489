/- A step of a walk, with what kind of operation it is: all that must be looked at lies in one fact. -/
import Derived.Test.YtcnmnmjmpocepaaGreatDoorU05
import Derived.Test.YtcnmnmjmpocepaaGreatDoorU10
set_option linter.unusedVariables false
set_option linter.unusedSimpArgs false
set_option linter.unusedSectionVars false
set_option maxRecDepth 100000
set_option maxHeartbeats 16000000
section
namespace Go.SL
variable {P:Program} {r:Option Nat} {F:B6} {n:Nat} {Q:C4} {env:Env} {own:List B6} {ds:List Deferred} {q:Bool} {all:Array Oper} {l:List Oper} {o:Oper} {v:Value} {d:Nat} (i:Nat)
abbrev G4(i:Nat)(n:Nat)(env:Env)(all:Array Oper)(o:Oper)(d:Nat):Prop:=kindOf o.op=i/\o.dst=some d/\Nat.blt d n=true/\Cy all env o=some true
theorem B3(e:G4 i n env all o d)(hv:Dc P (F::own) n o env v)(h:C6 q P r F n all l Q ((d,v)::env) own ds):C6 q P r F n all (o::l) Q env own ds:=Cq e.2.1 e.2.2.1 e.2.2.2 hv h
theorem Cw(e:kindOf o.op=i/\o.dst=some d/\Nat.blt d n=true/\Cy all env o=some false/\Ek o.op=true)(h:C6 q P r F n all l Q ((d,undef)::env) own ds):C6 q P r F n all (o::l) Q env own ds:=ZC e.2.1 e.2.2.1 e.2.2.2.1 e.2.2.2.2 h
theorem Cs{p:Prop} [Decidable p](e:G4 i n env all o d)(hv:Dc P (F::own) n o env (.bool (decide p)))(hp:p)(h:C6 q P r F n all l Q ((d,.bool true)::env) own ds):C6 q P r F n all (o::l) Q env own ds:=XE e.2.1 e.2.2.1 e.2.2.2 hv hp h
theorem CE{p:Prop} [Decidable p](e:G4 i n env all o d)(hv:Dc P (F::own) n o env (.bool (decide p)))(hp:¬p)(h:C6 q P r F n all l Q ((d,.bool false)::env) own ds):C6 q P r F n all (o::l) Q env own ds:=aS e.2.1 e.2.2.1 e.2.2.2 hv hp h
theorem IC{p:Prop} [Decidable p](e:G4 i n env all o d)(hv:Dc P (F::own) n o env (.bool (decide p)))(h1:p->C6 q P r F n all l Q ((d,.bool true)::env) own ds)(h2:¬p->C6 q P r F n all l Q ((d,.bool false)::env) own ds):C6 q P r F n all (o::l) Q env own ds:=ey e.2.1 e.2.2.1 e.2.2.2 hv h1 h2
theorem Mo{b:Bool}(e:G4 i n env all o d)(hv:Dc P (F::own) n o env (.bool b))(h1:b=true->C6 q P r F n all l Q ((d,.bool true)::env) own ds)(h2:b=false->C6 q P r F n all l Q ((d,.bool false)::env) own ds):C6 q P r F n all (o::l) Q env own ds:=ZG e.2.1 e.2.2.1 e.2.2.2 hv h1 h2
section
variable {P:Program} {r:Option Nat} {F:B6} {n:Nat} {Q:C4} {env:Env} {own rest hs own':List B6} {ds:List Deferred} {all:Array Oper} {l:List Oper} {o:Oper} {id:Nat}
theorem Ck{t T:TypeId}{x y:Operand}{b off:Nat}{v:Value}{cs vs cs':List Value}{d:TypeDesc}{z:Value}{ti:TypeInfo}
    (h:C6 false P r F n all l Q env own' ds) (_:kindOf o.op=5:=by rfl) (hd:o.dst=none:=by rfl) (hg:Cy all env o=some true:=by rfl) (ho:o.op= .store t x y:=by rfl) (hx:ev env x=some (.pointer (some ⟨b,off,none⟩)):=by exact rfl) (hy:ev env y=some v:=by exact rfl)
    (hv:D9 v=some vs:=by exact rfl) (ty:Ty P t d z ti:=by infer_instance) (GH:vs.length=ti.size:=by exact rfl) (h1:vs.all (·.oneCell')=true:=by exact rfl) (m:At own b (.cells ⟨cs⟩ T (0,0)):=by infer_instance) (hc:Fe cs off vs=some cs':=by exact rfl) (pb:Tt own b (.cells ⟨cs⟩ T (0,0)) (.cells ⟨cs'⟩ T (0,0)) own':=by infer_instance):C6 false P r F n all (o::l) Q env own ds:=NG hd hg ho hx hy hv GH h1 hc h
theorem Cn{d:Nat}{t:TypeId}{de:TypeDesc}{z:Value}{ti:TypeInfo}{cs:List Value}(h:∀b,C6 false P r F n all l Q ((d,.pointer (some ⟨b,0,none⟩))::env) (Co b (.cells ⟨cs⟩ t (0,0))::own) ds)
    (_:kindOf o.op=5:=by rfl) (hd:o.dst=some d:=by rfl) (hn:Nat.blt d n=true:=by rfl) (hg:Cy all env o=some true:=by rfl) (ho:o.op= .alloc t:=by rfl) (ty:Ty P t de z ti:=by infer_instance) (hz:D9 z=some cs:=by exact rfl):C6 false P r F n all (o::l) Q env own ds:=XK hd hn hg ho hz h
theorem CF{d:Nat}{t:TypeId}{x:Operand}{v:Value}{cs:List Value}(h:∀b,C6 false P r F n all l Q ((d,.pointer (some ⟨b,0,none⟩))::env) (Co b (.cells ⟨cs⟩ t (0,0))::own) ds)
    (_:kindOf o.op=5:=by rfl) (hd:o.dst=some d:=by rfl) (hn:Nat.blt d n=true:=by rfl) (hg:Cy all env o=some true:=by rfl) (ho:o.op= .box t x:=by rfl) (hx:ev env x=some v:=by exact rfl) (hz:D9 v=some cs:=by exact rfl):C6 false P r F n all (o::l) Q env own ds:=b9 hd hn hg ho hx hz h
theorem Cm{t e:TypeId}{sz bytes len:Nat}{ps:Array (Nat×Operand)}{qs:List (Nat×Value)}{zv:Value}{zc zs cs:List Value}{d:Nat}{de:TypeDesc}{ti:TypeInfo}
    (h:∀b,C6 false P r F n all l Q ((d,.slice (some ⟨b,0,none⟩) len len)::env) (Co b (.cells ⟨cs⟩ e (0,0))::own) ds)
    (_:kindOf o.op=5:=by rfl) (hd:o.dst=some d:=by rfl) (hn:Nat.blt d n=true:=by rfl) (hg:Cy all env o=some true:=by rfl) (ho:o.op= .buildSlice t len ps:=by rfl) (hp:Q6 env ps.toList=some qs:=by exact rfl)
    (g:M4 P t e sz bytes:=by infer_instance) (z:Ty P e de zv ti:=by infer_instance) (P0:D9 zv=some zc:=by exact rfl) (Su:zc.length=sz:=by exact rfl) (hz:TI len zc=some zs:=by exact rfl) (hb:JI (fun i=>some (i*sz,sz)) zs qs=some cs:=by exact rfl) (Ol:Nat.ble (len*sz) 16777216=true:=by exact rfl):
    C6 false P r F n all (o::l) Q env own ds:=O2 hd hn hg ho hp P0 Su hz hb Ol h
theorem B0{ops:Array Oper}(h:C6 false P r F n ops l Q env own ds)(hl:ops.toList=l:=by rfl):Db P r F n (.region id ops false) Q env own ds:=V9 hl h
theorem Cl{c:Operand}{x y:Code}(h1:Db P r F n x Q env own ds)(hc:ev env c=some (.bool true):=by rfl):Db P r F n (.cond c x y) Q env own ds:=Xs hc h1
theorem Cg{c:Operand}{x y:Code}(h1:Db P r F n y Q env own ds)(hc:ev env c=some (.bool false):=by rfl):Db P r F n (.cond c x y) Q env own ds:=VX hc h1
end
end Go.SL
end
section
namespace Go.SL
theorem Wz{K K2:B6}(h:hle K K2):CB [K,diff K2 K]=K2:=by
  funext x
  simp only [CB,join,emp,diff];cases hk:K x with
  |some o=>exact(h x o hk).symm
  |none=>dsimp only;cases K2 x <;>rfl
theorem Y7{P:Program}{f:FuncId}{args:List Value}{K K2:B6}{R:Ending->B6->Prop}
    (h:T P f args [K] fun e o=>∃K',o= [K']/\hle K K'/\R e K') (hk:hle K K2):T P f args [K2] fun e o=>∃Kn K',o= [K2,Kn]/\(∀K3,hle K K3->hle Kn K3->hle K' K3)/\R e K':=by
  intro w X s;have s1:Sat ([K]++(diff K2 K::X)) w:=by simpa using Lf hk (by simpa using s)
  refine(h w (diff K2 K::X) s1).mono ?_;rintro e w' ⟨o,s2,K',rfl,hK,hR⟩;have s3:Sat (K::diff K' K::diff K2 K::X) w':=Lf hK (by simpa using s2);have s4:Sat ([K,diff K2 K]++(diff K' K::X)) w':=s3.perm (by simpa using List.Perm.swap _ _ _);have s5:=s4.CB;rw [Wz hk] at s5
  exact⟨[K2,diff K' K],by simpa using s5,diff K' K,K',rfl,fun K3 h1 h2=>SK h1 h2 hK,hR⟩
section
variable {P:Program} {r:Option Nat} {F:B6} {n:Nat} {Q:C4} {env:Env} {own own':List B6} {ds:List Deferred} {c:Code}
theorem M8(hh:∀w,Sat (F::own) w->Sat (F::own') w)(h:Db P r F n c Q env own' ds):Db P r F n c Q env own ds:=
  fun a w ha hd s=>h a w ha hd (hh w s)
theorem RG{Jo rest Ws:List B6}(p:own.Perm (Jo++rest)):∀w,Sat (F::(own++Ws)) w->Sat (F::(Jo++Ws)) w:=fun w s=>by
  have p2:(own++Ws).Perm ((Jo++Ws)++rest):=by
    refine(p.append_right Ws).trans ?_;rw [List.append_assoc,List.append_assoc];exact List.Perm.append_left Jo List.perm_append_comm
  exact(s.perm (p2.cons F)).sub (List.Sublist.cons_cons F (List.sublist_append_left _ _))
end
end Go.SL
end
section
namespace Go.SL
structure FE(ds:List Deferred)(M:B6):Prop where
  out:∀r,Marks ds (M::r) r
theorem FE.nil:FE [] emp:=⟨fun _=>⟨fun _ s h=>h _ s.tail⟩⟩
theorem Sq(h k:B6):CB [h,k]=join h k:=by
  funext x
  simp only [CB,join,emp]
  split <;>rename_i q
  · rfl
  · cases k x <;>rfl
theorem FE.cons{ds:List Deferred}{M:B6}{D:Nat}(h:FE ds M)(d:DM (Co D (.deferred (some []))) M):FE (mark D::ds) (join (Co D (.deferred (some []))) M):=
  ⟨fun r=>⟨fun{P fn tmps R m w X} hm s hk=>by
    have s2:Sat ([Co D (.deferred (some [])),M]++(r++X)) w:=Sat.Hl (List.pairwise_cons.2 ⟨fun k hk=>by rw [List.mem_singleton.1 hk];exact d,List.pairwise_singleton _ _⟩) (by rw [Sq];exact s);obtain⟨w',h1,h2⟩:=RJ (P:=P) (hs:=M::(r++X)) s2;exact⟨hm,.inl ⟨D,w',rfl,h1,(h.out r).out hm (X:=X) h2 hk⟩⟩⟩⟩
theorem S5{P:Program}{fn:Func}{n:Nat}{env:Env}{ds:List Deferred}{M:B6}{own own1 rest:List B6}(hm:FE ds M)(hs:List B6){v:Value}{Q:Ending->List B6->Prop} [t1:Ks own M own1] [t:C1 own1 hs rest](hr:Hj P fn.results.toList own1 env n v)(hq:Q (.returned v) hs):Kr P fn n Q .ret env own ds:=
  ⟨v,own1,hs,⟨fun{P fn tmps R u w X} hu s h=>(hm.out own1).out hu (X:=X) (s.perm (t1.perm.append_right X)) h⟩,hr,fun F _ s=>(s.perm (t.perm.cons F)).sub (List.Sublist.cons_cons F (List.sublist_append_left _ _)),hq⟩
section
variable {P:Program} {r:Option Nat} {F:B6} {n:Nat} {Q:C4} {env:Env} {own rest own':List B6} {ds:List Deferred}
theorem Rw{c:Code}{D:Nat}{M:B6}(hm:FE ds M)(hp:own.Perm (M::own'))(h:∀M',FE (mark D::ds) M'->Db P r F n c Q env (M'::own') (mark D::ds)):
    Db P r F n c Q env (Co D (.deferred (some []))::own) (mark D::ds):=fun a w ha hd s=>by
  have s1:Sat ([Co D (.deferred (some [])),M]++(F::own')) w:=s.perm (by
    refine(List.Perm.swap _ _ _).trans (List.Perm.cons _ ?_);exact(hp.cons F).trans (List.Perm.swap _ _ _))
  have d:DM (Co D (.deferred (some []))) M:=(List.pairwise_cons.1 s1.dj).1 M Ak;have s2:=s1.CB;rw [Sq] at s2
  exact h _ (hm.cons d) a w ha hd s2.swap
theorem VS{c:Code}{D:Nat}{M:B6}{tl rest:List B6}(hm:FE ds M)(hp:own.Perm ((M::tl)++rest))(h:∀M',FE (mark D::ds) M'->Db P r F n c Q env (M'::tl) (mark D::ds)):
    Db P r F n c Q env (Co D (.deferred (some []))::own) (mark D::ds):=
  Rw hm (own':=tl++rest) (by simpa using hp) fun M' h'=>M8 (fun w s=>s.sub (by
    rw [<-List.cons_append,<-List.cons_append];exact List.sublist_append_left _ _)) (h M' h')
theorem VT{c:Code}(I:Env->List B6->List Deferred->Nat->Prop)(m:Nat)
    (round:∀env own ds m,I env own ds m->Db P r F n c (Qj (fun env' own' ay=>∃ID CN m',m'<m/\Sub ID env'/\(∀w,Sat (F::own') w->Sat (F::CN) w)/\I ID CN ay m') Q) env own ds)
    (h0:I env own ds m):Db P r F n (.loop c) Q env own ds:=by
  intro a w ha hd hs
  let J:Act->World->Nat->Prop:=fun a w m=>∃env own,Has n env a/\Sat (F::own) w/\I env own a.defers m
  have hJ:J a w m:=⟨env,own,ha,hs,by rw [hd];exact h0⟩
  classical
  let μ:Act->World->Nat:=fun a w=>if h:∃m,J a w m then Classical.choose (Ml h) else 0
  have hμ:∀ {a w} (h:∃m,J a w m),J a w (μ a w):=fun{a w} h=>by
    simp only [μ,dif_pos h];exact(Classical.choose_spec (Ml h)).1
  have hle:∀ {a w m},J a w m->μ a w≤m:=fun{a w m} h=>by
    have hx:∃m,J a w m:=⟨m,h⟩;simp only [μ,dif_pos hx];exact(Classical.choose_spec (Ml hx)).2 m h
  refine wpIn_loop (fun a w=>∃m,J a w m) μ ⟨m,hJ⟩ (fun a w h=> ?_);obtain⟨env',own',h1,h2,h3⟩:=hμ h;refine wpIn_mono (round env' own' _ _ h3 a w h1 rfl h2) fun e a' w' ⟨he,env'',own'',g1,g2,g3⟩=> ?_
  cases e with
  | normal=>
    obtain⟨ID,CN,m',Em,Je,Sw,hI⟩:=g3;have hj:J a' w' m':=⟨ID,CN,g1.weaken Je,Sw w' g2,hI⟩;exact⟨⟨m',hj⟩,Nat.lt_of_le_of_lt (hle hj) Em⟩
  |outgrown=>exact absurd rfl he
  |_=>exact⟨he,env'',own'',g1,g2,g3⟩
theorem VU{S:Type}(E:S->Env)(O:S->List B6)(I:S->Prop)(μ:S->Nat){c:Code}(s0:S) [t:C1 own (O s0) rest]
    (he:Sub (E s0) env) (hI:I s0)
    (round:∀s ds M,FE ds M->I s->Db P r F n c (Qj (fun env' own' ay=>∃s' M',FE ay M'/\(Sub (E s') env'/\∀w,Sat (F::own') w->Sat (F::M'::O s') w)/\I s'/\μ s'<μ s) Q) (E s) (M::O s) ds):
    Db P r F n (.loop c) Q env own []:=by
  refine Db.weaken (env':=E s0) (own':=O s0) he (fun w s=>(s.perm (t.perm.cons F)).sub (List.Sublist.cons_cons F (List.sublist_append_left _ _))) ?_;refine DY ?_;refine VT (fun env own ds m=>∃s M,env=E s/\own=M::O s/\m=μ s/\FE ds M/\I s) (μ s0) ?_ ⟨s0,emp,rfl,rfl,rfl,FE.nil,hI⟩;rintro env own ds m ⟨s,M,rfl,rfl,rfl,hm,hs⟩;refine(round s ds M hm hs).mono fun e env own ds h=> ?_
  cases e with
  | normal=>
    obtain⟨s',M',h1,⟨h2,h3⟩,h4,h5⟩:=h;exact⟨E s',M'::O s',μ s',h5,h2,h3,s',M',rfl,rfl,rfl,h1,h4⟩
  |_=>exact h
end
end Go.SL
end
section
namespace Go.SL
section
variable {P:Program} {Fn:Fence} {m:Nat} {b:Frame} {a:Act} {k:List Item} {cs:List Frame} {w:World} {QA:Exit->Act->World->Prop}
theorem FU{c:Code}:step P (lone (b.atR a (.code (.scope c)::k)) cs w)= .next (lone (b.atR a (.code c:: .inScope c::k)) cs w):=
  step_lone_go (by simp [Go.stepG,Go.stepG.exec,Frame.atR])
theorem NF{c:Code}:step P (lone (b.atR a (.inScope c::k)) cs w)= .next (lone (b.atR a k) cs w):=
  step_lone_go (by simp [Go.stepG,Go.stepG.exec,Frame.atR])
theorem Rt{c:Code}(h:c.wpIn Fn m P (fun e a w=>(∀l,e≠ .goto l)/\QA e a w) a w):(Code.scope c).wpIn Fn m P QA a w:=by
  intro b k cs lU hb hr;have h0:(lone (b.atR a (.code (.scope c)::k)) cs w).fenced P Fn:=fenced_calm hb hr rfl;obtain⟨e,UO,OY,⟨hn,hq⟩,harr⟩:=h b (.inScope c::k) cs lU hb hr;cases e with
  |normal=>exact⟨.normal,UO,OY,hq,.head h0 FU (StepsIn.trans harr (.one (fenced_calm hb hr rfl) NF))⟩
  | exit id'=>
    have hx:exitTo id' (.inScope c::k)=exitTo id' k:=by simp [exitTo]
    exact⟨.exit id',UO,OY,hq,fun k' hk=> .head h0 FU (harr.1 k' (by rw [hx];exact hk)),
      fun Vr hk=>let ⟨k₁,h1,h2⟩:=harr.2 Vr (by rw [hx];exact hk);⟨k₁,h1,.head h0 FU h2⟩⟩
  |goto l=>exact(hn l rfl).elim
  |ret=>exact⟨_,UO,OY,hq,.of_steps (.one h0 FU) harr⟩
  |panic ch=>exact⟨_,UO,OY,hq,.of_steps (.one h0 FU) harr⟩
  |outgrown=>exact⟨_,UO,OY,hq,.of_steps (.one h0 FU) harr⟩
end
theorem TR{P:Program}{n:Nat}{r:Option Nat}{F:B6}{c:Code}{Q:C4}{env:Env}{own:List B6}{ds:List Deferred}(h:Db P r F n c (fun e env own ds=>(∀l,e≠ .goto l)/\Q e env own ds) env own ds):Db P r F n (.scope c) Q env own ds:=
  fun a w ha hd hs=>Rt (wpIn_mono (h a w ha hd hs) fun e a' w' ⟨he,env',own',h1,h2,h3,h4⟩=>⟨h3,he,env',own',h1,h2,h4⟩)
end Go.SL
end
