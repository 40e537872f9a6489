
import Derived.Test.YtcnmnmjmpocepaaGreatDoorU00
import Derived.Test.YtcnmnmjmpocepaaGreatDoorU11
import Derived.Test.YtcnmnmjmpocepaaGreatDoorU34
import Derived.Test.YtcnmnmjmpocepaaGreatDoorU15
set_option linter.unusedVariables false
set_option linter.unusedSimpArgs false
set_option linter.unusedSectionVars false
set_option maxRecDepth 100000
set_option maxHeartbeats 16000000
section
namespace Go.Proofs.YtcnmnmjmpocepaaGreatDoor.Cd
open Go.SL
theorem Px{own hs rest:List B6} [t:C1 own hs rest]:∀(X:List B6) w,Sat (own++X) w->Sat (hs++X) w:=
  fun X w s=>(s.perm (t.perm.append_right X)).sub (List.Sublist.append (List.sublist_append_left hs rest) (List.Sublist.refl X))
attribute [local irreducible] SL.T C7 Dc C6 Db DS Du
abbrev fW:Value:= .agg ⟨[.slice none 0 0,.slice none 0 0]⟩
theorem YS(b2 b3:Nat):TD Tryz.prog 95 [ptr b2,ptr b3] [] .returning fun e m own=>m= .returning/\(e= .returned (.tuple #[])/\own= []):=by
  refine Nz (v:= .nilIface) (fun Kf cs hu=> .inr ⟨by simp [recoverD,hu],rfl,rfl⟩) Tryz.func95 rfl (Nat.le_of_ble_eq_true rfl) rfl rfl rfl rfl rfl rfl rfl rfl rfl rfl rfl (fun F=> ?_)
  repeat' (first|refine Cq rfl rfl rfl (DT rfl rfl) ?_|apply B4|refine B3 0 BY Am ?_|refine B0 ?_|apply B5|refine B8 ?_|refine Cg ?_|apply Cc)
  exact⟨rfl,_,[],CU,fun _ _ s=>s,rfl,rfl⟩
theorem YU(b2 b3 Rm:Nat)(c1 c2 c3:Value):TD Tryz.prog 95 [ptr b2,ptr b3] [Co b2 (.cells ⟨[c1,c2]⟩ 32 (0,0)),Co b3 (.cells ⟨[c3]⟩ 40 (0,0))] (.panicking [{v:=Pp Rm,recovered:=false}])
    fun e m own=>m= .panicking [{v:=Pp Rm,recovered:=true}]/\(e= .returned (.tuple #[])/\own= [Co b2 (.cells ⟨[.slice none 0 0,.slice none 0 0]⟩ 32 (0,0)),Co b3 (.cells ⟨[Pp Rm]⟩ 40 (0,0))]):=by
  refine Nz (v:=Pp Rm) (fun Kf cs hu=> .inl (by simp [recoverD,hu])) Tryz.func95 rfl (Nat.le_of_ble_eq_true rfl) rfl rfl rfl rfl rfl rfl rfl rfl rfl rfl rfl (fun F=> ?_)
  repeat' (first|refine Cq rfl rfl rfl (D7 rfl rfl) ?_|refine Cq rfl rfl rfl (O9 rfl rfl rfl) ?_|apply B4|refine B3 0 BY AL ?_|refine Cn (fun β=> ?_)|refine Ck ?_|refine B0 ?_|apply B5|refine B8 ?_|refine Cl ?_|refine Cg ?_|apply Cc)
  refine Cu [.q [0],.r [1,2],.h true 3,.h true 4] [Co β (.cells ⟨[ptr Rm]⟩ 180 (0,0))] Ac Ac Ac Ac ?_
  repeat' (first|refine Cq rfl rfl rfl (EN rfl rfl rfl) ?_|refine B3 3 BY Az ?_|refine B3 5 BY Ar ?_|refine Cz ?_|refine CQ rfl ?_|refine MV rfl ?_|refine C2 rfl rfl rfl rfl rfl rfl Aa rfl Aa Aa ?_|apply B5)
  exact⟨rfl,_,_,CU,Px,rfl,rfl⟩
def DQ(r:Except Nat Im)(e:Ending)(o:List B6):Prop:=match r with
  | .ok x=>∃K v,o= [K]/\OQ K x v/\e= .returned (.tuple ⟨[v,.nilIface]⟩)
  | .error q=>∃β,o= [IY β (q:Int)]/\e= .returned (.tuple ⟨[fW,Pp β]⟩)
theorem U0(s:List UInt8)(hs:s.length≤9223372036854775807):
    SL.T Tryz.prog 57 [str s] [] fun e o=>match Mu s with
      | .ok x=>∃K hC K2 hM DF cc mb mc cv mv,e= .returned (.tuple ⟨[.agg ⟨[.slice DF x.cls.length cc,.slice mb x.ms.length mc]⟩,.nilIface]⟩)/\OS hC DF x.cls.length cc 76 1 cv/\LY K x.cls cv/\OS hM mb x.ms.length mc 66 4 mv/\VJ K2 x.ms mv/\x.cls.length≤1000/\x.ms.length≤1000/\o= [K,hC,K2,hM]
      | .error q=>∃β,o= [IY β (q:Int)]/\e= .returned (.tuple ⟨[fW,Pp β]⟩):=by
  have g:=fun E9=>St E9 s hs
  cases h:Mu s with
  | ok x=>
    rw [h] at g
    refine NB Tryz.func57 rfl (Nat.le_of_ble_eq_true rfl) fun F=> ?_
    repeat' (first|refine RD rfl rfl rfl rfl rfl rfl ?_|apply B4|refine B3 0 BY A1 ?_|(refine gk 4 rfl ?_;(refine B9 rfl rfl rfl rfl rfl rfl rfl rfl (g _) ?_;rintro _ _ ⟨K,hC,K2,hM,DF,cc,mb,mc,cv,mv,rfl,FK,hP,Xc,hPM,Zo,Nn,rfl⟩;refine⟨_,_,rfl,rfl,?_⟩))|refine B3 5 BY Ar ?_|refine CF (fun β=> ?_)|refine Cn (fun β=> ?_)|refine Ck ?_|refine B0 ?_|apply B5|refine B8 ?_|apply Cb)
    refine Vl (dargs:= []) (hs:= []) Ak rfl (YS _ _) ?_;rintro _ _ _ ⟨rfl,rfl,rfl⟩;simp only [List.nil_append];exact⟨⟨_,rfl⟩,rfl,_,[K,hC,K2,hM],Ct (Cv rfl rfl rfl rfl) (Fu rfl rfl rfl),Px,K,hC,K2,hM,DF,cc,mb,mc,cv,mv,rfl,FK,hP,Xc,hPM,Zo,Nn,rfl⟩
  | error q=>
    rw [h] at g
    refine NB Tryz.func57 rfl (Nat.le_of_ble_eq_true rfl) fun F=> ?_
    repeat' (first|refine RD rfl rfl rfl rfl rfl rfl ?_|apply B4|refine B3 0 BY A1 ?_|(refine gk 4 rfl ?_;(refine Ev rfl rfl rfl rfl rfl rfl rfl rfl (g _) ?_;rintro _ _ ⟨D6,rfl,rfl⟩;refine .inr ⟨_,rfl,?_⟩;repeat (refine C9 ?_)))|refine B3 5 BY Ar ?_|refine CF (fun β=> ?_)|refine Cn (fun β=> ?_)|refine B0 ?_|apply B5)
    simp only [List.cons_append,List.nil_append];refine Vl (dargs:= []) Ak rfl (YU _ _ _ (.slice none 0 0) (.slice none 0 0) .nilIface) ?_;rintro _ _ _ ⟨rfl,rfl,rfl⟩;simp only [List.cons_append,List.nil_append];exact⟨⟨_,rfl⟩,rfl,_,[IY D6 q],Ct (Cv rfl rfl rfl rfl) (Fu rfl rfl rfl),(fun X w s=>s.tail.tail),D6,rfl,rfl⟩
theorem Rk(s:List UInt8)(hs:s.length≤9223372036854775807):SL.T Tryz.prog 57 [str s] [] (DQ (Mu s)):=by
  have h:=U0 s hs;unfold DQ;cases hd:Mu s with
  |error q=>rw [hd] at h;exact h
  | ok x=>
    rw [hd] at h
    refine(Ib (R:=fun e A N=>A= []/\∃K hC K2 hM DF cc mb mc cv mv,e= .returned (.tuple ⟨[.agg ⟨[.slice DF x.cls.length cc,.slice mb x.ms.length mc]⟩,.nilIface]⟩)/\OS hC DF x.cls.length cc 76 1 cv/\LY K x.cls cv/\OS hM mb x.ms.length mc 66 4 mv/\VJ K2 x.ms mv/\x.cls.length≤1000/\x.ms.length≤1000/\N= [K,hC,K2,hM]) (T.mono h ?_)).mono ?_
    · rintro e o ⟨K,hC,K2,hM,DF,cc,mb,mc,cv,mv,h1,h2,h3,h4,h5,h6,h7,rfl⟩;exact⟨[],[K,hC,K2,hM],by simp,rfl,K,hC,K2,hM,DF,cc,mb,mc,cv,mv,h1,h2,h3,h4,h5,h6,h7,rfl⟩
    · rintro e o ⟨A,N,L,rfl,hL,rfl,K,hC,K2,hM,DF,cc,mb,mc,cv,mv,rfl,h2,h3,h4,h5,h6,h7,rfl⟩;refine⟨L,_,rfl,⟨DF,x.cls.length,cc,mb,x.ms.length,mc,rfl,⟨cv,h2.sl.mono (hL hC Ak),by have:=h2.hlen;omega,rfl,by omega,fun i f hf=> ?_⟩,⟨mv,h4.sl.mono (hL hM Ak),h4.hlen,rfl,by omega,fun i m hm=> ?_⟩,h2.hle,h4.hle⟩,rfl⟩
      · obtain⟨fb,fn,fc,g1,g2,g3,g4⟩:=h3.2 i f hf;exact⟨fb,fn,fc,g1,g2.mono (hL K Ak),g3,by omega⟩
      · obtain⟨pb,pc,cb,iY,g1,g2,g3,g4,g5,g6,g7,g8,g9⟩:=h5.2 i m hm;exact⟨pb,_,pc,cb,_,iY,g1,g2,g3,g4,g5.mono (hL K2 Ak),rfl,by omega,g7.mono (hL K2 Ak),rfl,g8,by omega⟩
end Go.Proofs.YtcnmnmjmpocepaaGreatDoor.Cd
end
section
namespace Go.Proofs.YtcnmnmjmpocepaaGreatDoor.Cd
open Go.SL
attribute [local irreducible] SL.T C7 Dc C6 Db DS Du
end Go.Proofs.YtcnmnmjmpocepaaGreatDoor.Cd
end
section
namespace Go.Proofs.YtcnmnmjmpocepaaGreatDoor.Cd
open Go.SL
attribute [local irreducible] SL.T C7 Dc C6 Db DS Du
end Go.Proofs.YtcnmnmjmpocepaaGreatDoor.Cd
end
section
namespace Go.Proofs.YtcnmnmjmpocepaaGreatDoor.Cd
open Go.SL
end Go.Proofs.YtcnmnmjmpocepaaGreatDoor.Cd
end
section
namespace Go.Proofs.YtcnmnmjmpocepaaGreatDoor.Cd
open Go.SL
attribute [local irreducible] SL.T C7 Dc C6 Db DS Du
end Go.Proofs.YtcnmnmjmpocepaaGreatDoor.Cd
end
section
namespace Go.Proofs.YtcnmnmjmpocepaaGreatDoor.Cd
open Go.SL
attribute [local irreducible] SL.T C7 Dc C6 Db DS Du
end Go.Proofs.YtcnmnmjmpocepaaGreatDoor.Cd
end
section
namespace Go.Proofs.YtcnmnmjmpocepaaGreatDoor.Cd
open Go.SL
end Go.Proofs.YtcnmnmjmpocepaaGreatDoor.Cd
end
section
namespace Go.Proofs.YtcnmnmjmpocepaaGreatDoor.Cd
open Go.SL
theorem QK(l:List UInt8)(b:UInt8):Dn (l++ [b])=Dn l+256^l.length*b.toNat:=by
  induction l with
  |nil=>simp [Dn]
  | cons a l ih=>
    simp only [List.cons_append,Dn,ih,List.length_cons,Nat.pow_succ];rw [Nat.mul_add,Nat.add_assoc,Nat.mul_comm (256^l.length) 256,Nat.mul_assoc]
theorem Mi:∀l:List UInt8,Dn l<256^l.length
  | []=>by simp [Dn]
  | a::l=>by
    have h1:=a.toNat_lt;have h2:=Mi l;simp only [Dn,List.length_cons,Nat.pow_succ];omega
theorem Mj(w:Nat):∀k,Dn (Ij w k)=w%256^k
  |0=>by simp [Ij,Dn,Nat.mod_one]
  | k+1=>by
    rw [Ij,QK,Mj w k,Ed,Nat.pow_succ,Nat.mod_mul,Nat.shiftRight_eq_div_pow,Nat.pow_mul];simp
theorem PO:∀ {l l':List UInt8},l.length=l'.length->Dn l=Dn l'->l=l'
  | [],[],_,_=>rfl
  | [],_::_,h,_=>by cases h
  |_::_,[],h,_=>by cases h
  | a::l,b::l',h,e=>by
    simp only [Dn] at e
    have h1:=a.toNat_lt;have h2:=b.toNat_lt;have e1:a.toNat=b.toNat:=by omega
    have e2:Dn l=Dn l':=by omega
    rw [PO (by simpa using h) e2,UInt8.toNat_inj.1 e1]
theorem Wy(l:List UInt8):Ij (Dn l) l.length=l:=
  PO (Ed ..) (by rw [Mj,Nat.mod_eq_of_lt (Mi l)])
def NR(many:Nat)(n:Int):Prop:=(many=1/\0≤n/\n≤255)∨(many=2/\0≤n/\n≤65535)∨(many=8/\ -9223372036854775808≤n/\n≤9223372036854775807)
theorem U5(n:Int):(HS n:Int)=n%18446744073709551616:=by
  rw [<-Xn];simp [IntKind.wrap,IntKind.bits,IntKind.signed]
theorem Nv(n:Int):IntKind.i64.wrap n=if 9223372036854775808≤n%18446744073709551616 then n%18446744073709551616 - 18446744073709551616 else n%18446744073709551616:=by
  simp [IntKind.wrap,IntKind.bits,IntKind.signed]
theorem Xk{many:Nat}{n:Int}(h:NR many n):IntKind.i64.wrap ((Dn (Ij (HS n) many):Nat):Int)=n:=by
  rw [Mj];have e:=U5 n;rcases h with ⟨rfl,h1,h2⟩|⟨rfl,h1,h2⟩|⟨rfl,h1,h2⟩
  · have:HS n%256^1=HS n:=Nat.mod_eq_of_lt Ab;rw [this,C8 Ab Ab];omega
  · have:HS n%256^2=HS n:=Nat.mod_eq_of_lt Ab;rw [this,C8 Ab Ab];omega
  · have:HS n%256^8=HS n:=Nat.mod_eq_of_lt Ab;rw [this,Nv]
    split <;>omega
theorem Yh{many:Nat}{l:List UInt8}(hl:l.length=many)(hm:many=1∨many=2∨many=8):Ij (HS (IntKind.i64.wrap ((Dn l:Nat):Int))) many=l/\NR many (IntKind.i64.wrap ((Dn l:Nat):Int)):=by
  have h1:=Mi l;have e:=U5 (IntKind.i64.wrap ((Dn l:Nat):Int));have e2:=Nv ((Dn l:Nat):Int);rw [hl] at h1
  have e3:HS (IntKind.i64.wrap ((Dn l:Nat):Int))=Dn l:=by
    rcases hm with rfl|rfl|rfl <;>(split at e2 <;>omega)
  refine⟨by rw [e3,<-hl];exact Wy l,?_⟩;unfold NR;rcases hm with rfl|rfl|rfl <;>(split at e2 <;>omega)
structure LR{α:Type}(R:List UInt8->Rd α)(B:α->List UInt8)(p:α->Prop):Prop where
  wr:∀(u v:List UInt8) (x:α),p x->R (u++(B x++v)) u.length= .ok (x,u.length+(B x).length)
  un:∀(s:List UInt8) (a b:Nat) (x:α),a≤s.length->R s a= .ok (x,b)->p x/\∃u v,s=u++(B x++v)/\a=u.length/\b=u.length+(B x).length
  er:∀(s:List UInt8) (a q:Nat),a≤s.length->R s a= .error q->q≤s.length
theorem cj(u l v:List UInt8):rd (u++(l++v)) u.length l.length=some (IntKind.i64.wrap ((Dn l:Nat):Int)):=by
  unfold rd;rw [if_pos Ak];simp
theorem XS{s:List UInt8}{a many:Nat}{n:Int}(h:rd s a many=some n):∃u l v,s=u++(l++v)/\a=u.length/\l.length=many/\n=IntKind.i64.wrap ((Dn l:Nat):Int):=by
  unfold rd at h
  split at h
  · cases h
    refine⟨s.take a,(s.drop a).take many,(s.drop a).drop many,?_,?_,?_,rfl⟩
    · rw [List.take_append_drop,List.take_append_drop]
    · simp;omega
    · simp;omega
  · cases h
theorem IP(many:Nat)(f:Int->Bool)(hm:many=1∨many=2∨many=8):LR (fun s=>num s many f) (fun n=>Ij (HS n) many) (fun n=>NR many n/\f n=true):=by
  refine⟨fun u v x h=> ?_,fun s a b x ha h=> ?_,fun s a q ha h=> ?_⟩
  · have:=cj u (Ij (HS x) many) v;rw [Ed] at this
    simp only [num,IB,this,Xk h.1,h.2,if_true,Ed]
  · unfold num IB at h
    cases h1:rd s a many with
    |none=>rw [h1] at h;cases h
    | some n=>
      rw [h1] at h
      dsimp only at h
      cases hf:f n with
      |false=>rw [hf] at h;simp at h
      | true=>
        rw [hf] at h
        simp only [if_true] at h
        cases h
        obtain⟨u,l,v,e1,e2,e3,e4⟩:=XS h1;have:=Yh e3 hm;rw [<-e4] at this
        exact⟨⟨this.2,hf⟩,u,v,by rw [this.1];exact e1,e2,by rw [Ed,e2]⟩
  · unfold num IB at h
    cases h1:rd s a many with
    |none=>rw [h1] at h;cases h;exact ha
    | some n=>
      rw [h1] at h
      dsimp only at h
      cases hf:f n with
      |false=>rw [hf] at h;simp at h;omega
      |true=>rw [hf] at h;simp at h
theorem LR.bind{α β γ:Type}{R1:List UInt8->Rd α}{B1:α->List UInt8}{p1:α->Prop}{R2:α->List UInt8->Rd β}{B2:β->List UInt8}{p2:α->β->Prop}(h1:LR R1 B1 p1)(h2:∀x,p1 x->LR (R2 x) B2 (p2 x))
    {mk:α->β->γ} {fs:γ->α} {sn:γ->β} (hf:∀x y,p1 x->p2 x y->fs (mk x y)=x) (hs:∀x y,sn (mk x y)=y) (hm:∀z,mk (fs z) (sn z)=z) {R:List UInt8->Rd γ}
    (hR:∀s a,R s a=match R1 s a with| .error e=> .error e| .ok (x,a1)=>(match R2 x s a1 with| .error e=> .error e| .ok (y,a2)=> .ok (mk x y,a2))):
    LR R (fun z=>B1 (fs z)++B2 (sn z)) (fun z=>p1 (fs z)/\p2 (fs z) (sn z)):=by
  refine⟨fun u v z h=> ?_,fun s a b z ha h=> ?_,fun s a q ha h=> ?_⟩
  · have k1:=h1.wr u (B2 (sn z)++v) (fs z) h.1;have k2:=(h2 _ h.1).wr (u++B1 (fs z)) v (sn z) h.2;rw [hR];rw [show u++(B1 (fs z)++B2 (sn z)++v)=u++(B1 (fs z)++(B2 (sn z)++v)) by simp,k1];rw [show u++B1 (fs z)++(B2 (sn z)++v)=u++(B1 (fs z)++(B2 (sn z)++v)) by simp,List.length_append] at k2
    dsimp only;rw [k2];simp only [hm,List.length_append,Nat.add_assoc]
  · rw [hR] at h
    cases e1:R1 s a with
    |error e=>rw [e1] at h;cases h
    | ok p=>
      obtain⟨x,a1⟩:=p;rw [e1] at h
      dsimp only at h
      obtain⟨g1,u,v,g2,g3,g4⟩:=h1.un s a a1 x ha e1;cases e2:R2 x s a1 with
      |error e=>rw [e2] at h;cases h
      | ok p=>
        obtain⟨y,a2⟩:=p;rw [e2] at h
        cases h
        have ha1:a1≤s.length:=by rw [g4,g2];simp
        obtain⟨f1,u2,v2,f2,f3,f4⟩:=(h2 x g1).un s a1 _ y ha1 e2;have hu:u2=u++B1 x:=by
          have:s=(u++B1 x)++v:=by rw [g2];simp
          rw [this] at f2
          exact(List.append_inj f2 (by rw [<-f3,g4];simp)).1.symm
        rw [hf x y g1 f1,hs];refine⟨⟨g1,f1⟩,u,v2,by rw [f2,hu];simp,g3,by rw [f4,hu];simp;omega⟩
  · rw [hR] at h
    cases e1:R1 s a with
    |error e=>rw [e1] at h;cases h;exact h1.er s a _ ha e1
    | ok p=>
      obtain⟨x,a1⟩:=p;rw [e1] at h
      dsimp only at h
      obtain⟨g1,u,v,g2,g3,g4⟩:=h1.un s a a1 x ha e1;have ha1:a1≤s.length:=by rw [g4,g2];simp
      cases e2:R2 x s a1 with
      |error e=>rw [e2] at h;cases h;exact(h2 x g1).er s a1 _ ha1 e2
      |ok p=>rw [e2] at h;cases h
theorem LR.of{α:Type}{R R':List UInt8->Rd α}{B B':α->List UInt8}{p p':α->Prop}(h:LR R B p)(hR:∀s a,R' s a=R s a)(hB:∀x,B' x=B x)(hp:∀x,p' x↔p x):LR R' B' p':=
  ⟨fun u v x hx=>by rw [hB,hR];exact h.wr u v x ((hp x).1 hx),fun s a b x ha hx=>by
    rw [hR] at hx;rw [hB,hp];exact h.un s a b x ha hx,fun s a q ha hx=>by rw [hR] at hx;exact h.er s a q ha hx⟩
theorem X9 {α :Type}{R:Nat->List UInt8->Rd α}{B:α->List UInt8}{p:Nat->α->Prop}(h:∀i,LR (R i) B (p i)){RR:Nat->List UInt8->Rd (List α)}(h0:∀s a,RR 0 s a= .ok ([],a))
    (h1:∀k s a,RR (k+1) s a=match RR k s a with| .ok (l,a1)=>(match R k s a1 with| .ok (x,a2)=> .ok (l++ [x],a2)| .error e=> .error e)| .error e=> .error e):
    ∀k,LR (RR k) (fun l=>(l.map B).flatten) (fun l=>l.length=k/\∀i x,l[i]?=some x->p i x):=by
  intro k;induction k with
  | zero=>
    refine⟨fun u v x hx=> ?_,fun s a b x ha hx=> ?_,fun s a q ha hx=>by rw [h0] at hx;cases hx⟩
    · obtain rfl:=List.length_eq_zero_iff.1 hx.1;rw [h0];simp
    · rw [h0] at hx
      cases hx
      refine⟨⟨rfl,fun i x h=>by simp at h⟩,s.take a,s.drop a,by simp,by simp;omega,by simp;omega⟩
  | succ k ih =>
    refine⟨fun u v l hx=> ?_,fun s a b l ha hx=> ?_,fun s a q ha hx=> ?_⟩
    · obtain⟨l',x,rfl⟩:∃l' x,l=l'++ [x]:=by
        rcases List.eq_nil_or_concat l with rfl|⟨l',x,rfl⟩
        · cases hx.1
        · exact⟨l',x,by simp⟩
      have hl':l'.length=k:=by have:=hx.1;simp at this;exact this
      have k1:=ih.wr u (B x++v) l' ⟨hl',fun i y hy=>hx.2 i y (by rw [List.getElem?_append_left (List.getElem?_eq_some_iff.1 hy).1];exact hy)⟩;have k2:=(h k).wr (u++(l'.map B).flatten) v x (hx.2 k x (by rw [<-hl'];simp));rw [h1];rw [show u++(((l'++ [x]).map B).flatten++v)=u++((l'.map B).flatten++(B x++v)) by simp];rw [show u++(l'.map B).flatten++(B x++v)=u++((l'.map B).flatten++(B x++v)) by simp,List.length_append] at k2
      simp only [k1,k2];simp only [List.map_append,List.map_cons,List.map_nil,List.flatten_append,List.flatten_cons,List.flatten_nil,List.append_nil,List.length_append,Nat.add_assoc]
    · rw [h1] at hx
      cases e1:RR k s a with
      |error e=>rw [e1] at hx;cases hx
      | ok q=>
        obtain⟨l1,a1⟩:=q;rw [e1] at hx
        dsimp only at hx
        obtain⟨g1,u,v,g2,g3,g4⟩:=ih.un s a a1 l1 ha e1;cases e2:R k s a1 with
        |error e=>rw [e2] at hx;cases hx
        | ok q=>
          obtain⟨y,a2⟩:=q;rw [e2] at hx
          cases hx
          have ha1:a1≤s.length:=by rw [g4,g2];simp
          obtain⟨f1,u2,v2,f2,f3,f4⟩:=(h k).un s a1 _ y ha1 e2;have hu:u2=u++(l1.map B).flatten:=by
            have:s=(u++(l1.map B).flatten)++v:=by rw [g2];simp
            rw [this] at f2
            exact(List.append_inj f2 (by rw [<-f3,g4];simp)).1.symm
          refine⟨⟨by simp [g1.1],fun i z hz=> ?_⟩,u,v2,by rw [f2,hu];simp,g3,by rw [f4,hu];simp;omega⟩;by_cases hi:i<l1.length
          · rw [List.getElem?_append_left hi] at hz;exact g1.2 i z hz
          · have TC:i=l1.length:=by
              have:=(List.getElem?_eq_some_iff.1 hz).1;simp at this;omega
            subst TC;simp at hz;subst hz
            rw [g1.1];exact f1
    · rw [h1] at hx
      cases e1:RR k s a with
      |error e=>rw [e1] at hx;cases hx;exact ih.er s a _ ha e1
      | ok q=>
        obtain⟨l1,a1⟩:=q;rw [e1] at hx
        dsimp only at hx
        obtain⟨g1,u,v,g2,g3,g4⟩:=ih.un s a a1 l1 ha e1;have ha1:a1≤s.length:=by rw [g4,g2];simp
        cases e2:R k s a1 with
        |error e=>rw [e2] at hx;cases hx;exact(h k).er s a1 _ ha1 e2
        |ok q=>rw [e2] at hx;cases hx
theorem Vm{α:Type}{R:List UInt8->Rd α}{B:α->List UInt8}{p:α->Prop}(h:LR R B p)(k:Nat):LR (fun s=>rep (R s) k) (fun l=>(l.map B).flatten) (fun l=>l.length=k/\∀x∈l,p x):=
  (X9 (RR:=fun k s=>rep (R s) k) (fun _=>h) (fun _ _=>rfl) (fun _ _ _=>rfl) k).of (fun _ _=>rfl) (fun _=>rfl) fun l=>
    ⟨fun⟨g1,g2⟩=>⟨g1,fun i x hx=>g2 x (List.mem_of_getElem? hx)⟩,fun⟨g1,g2⟩=>⟨g1,fun x hx=>by obtain⟨i,hi⟩:=List.mem_iff_getElem?.1 hx;exact g2 i x hi⟩⟩
theorem Vn{α:Type}{R:List UInt8->Rd α}{B:α->List UInt8}{p:α->Prop}(h:LR R B p){many:Nat}{least most:Int}(hm:many=1∨many=2∨many=8)(hl:0≤least){R':List UInt8->Rd (List α)}
    (hR:∀s a,R' s a=match num s many (fun z=>wi z least most) a with| .error e=> .error e| .ok (n,a1)=>rep (R s) n.toNat a1):
    LR R' (fun l=>Ij (HS l.length) many++(l.map B).flatten) (fun l=>(NR many l.length/\wi l.length least most=true)/\∀x∈l,p x):=by
  have hn:=IP many (fun z=>wi z least most) hm;have:=LR.bind hn (R2:=fun n s=>rep (R s) n.toNat) (p2:=fun n l=>l.length=n.toNat/\∀x∈l,p x) (fun n _=>Vm h n.toNat) (mk:=fun _ l=>l) (fs:=fun l:List α=>(l.length:Int)) (sn:=fun l=>l) (R:=R')
    (fun n l h1 h2=>by have:=h1.2;simp only [wi,decide_eq_true_eq] at this;have:=h2.1;omega) (fun _ _=>rfl) (fun _=>rfl) (fun s a=>by
      rw [hR];cases e1:num s many (fun z=>wi z least most) a with
      |error e=>rfl
      | ok q=>
        obtain⟨n,a1⟩:=q;dsimp only;cases rep (R s) n.toNat a1 <;>rfl)
  exact this.of (fun _ _=>rfl) (fun _=>rfl) fun l=>⟨fun⟨g1,g2⟩=>⟨g1,by simp,g2⟩,fun⟨g1,g2⟩=>⟨g1,g2.2⟩⟩
end Go.Proofs.YtcnmnmjmpocepaaGreatDoor.Cd
end
section
namespace Go.Proofs.YtcnmnmjmpocepaaGreatDoor.Cd
open Go.SL
def Ze(n:Int):Prop:= -9223372036854775808≤n/\n≤9223372036854775807
def Tu(y:Ins):Prop:=(0≤y.op/\y.op≤255)/\Ze y.a/\Ze y.b
def GY(most cl:Int)(l:List Int):Prop:=(l.length:Int)≤most/\∀z∈l,0≤z/\z≤cl
def Pt(most cl:Int)(m:Me):Prop:=GY most cl m.params/\((m.params.length:Int)≤m.lo/\m.lo≤16)/\(0≤m.st/\m.st≤32)/\(1≤m.code.length/\m.code.length≤256)/\∀y∈m.code,Tu y
def UY(x:Im):Prop:=x.cls.length≤16/\(∀f∈x.cls,GY 8 x.cls.length f)/\(1≤x.ms.length/\x.ms.length≤32)/\∀i m,x.ms[i]?=some m->Pt (if i=0 then 0 else 16) x.cls.length m
theorem eJ{n:Int}:NR 1 n↔0≤n/\n≤255:=by unfold NR;omega
theorem lz{n:Int}:NR 2 n↔0≤n/\n≤65535:=by unfold NR;omega
theorem ly{n:Int}:NR 8 n↔Ze n:=by unfold NR Ze;omega
theorem Ie{n a b:Int}:wi n a b=true↔a≤n/\n≤b:=by simp [wi]
theorem cI:LR Lz iB Tu:=by
  have h8:=LR.bind (IP 8 (fun _=>true) Ae) (R2:=fun _ s=>num s 8 (fun _=>true)) (fun _ _=>IP 8 (fun _=>true) Ae) (mk:=fun x y=>((x,y):Int×Int)) (fs:=Prod.fst) (sn:=Prod.snd) (fun _ _ _ _=>rfl) (fun _ _=>rfl) (fun _=>rfl) (fun _ _=>rfl);have:=LR.bind (IP 1 (fun _=>true) Ae) (R2:=fun _ s a=>_) (fun _ _=>h8) (mk:=fun o q=>(⟨o,q.1,q.2⟩:Ins)) (fs:=Ins.op) (sn:=fun z=>(z.a,z.b)) (R:=Lz) (fun _ _ _ _=>rfl) (fun _ _=>rfl) (fun _=>rfl) (fun s a=>by
    unfold Lz;cases num s 1 (fun _=>true) a with
    |error e=>rfl
    | ok q=>
      obtain⟨o,a1⟩:=q;dsimp only;cases num s 8 (fun _=>true) a1 with
      |error e=>rfl
      | ok q=>
        obtain⟨x,a2⟩:=q;dsimp only;cases num s 8 (fun _=>true) a2 with
        |error e=>rfl
        |ok q=>rfl)
  refine this.of (fun _ _=>rfl) (fun _=>rfl) fun z=> ?_
  simp only [eJ,ly,and_true,Tu]
theorem Sh(most cl:Int)(hm:most≤255)(hc:cl≤255):LR (fun s=>ER s most cl) kB (GY most cl):=by
  have:=Vn (IP 1 (fun z=>wi z 0 cl) Ae) (many:=1) (least:=0) (most:=most) Ae Ae (R':=fun s=>ER s most cl) (fun s a=>by
    show ER s most cl a=_;unfold ER;cases num s 1 (fun z=>wi z 0 most) a with
    |error e=>rfl
    |ok q=>rfl)
  refine this.of (fun _ _=>rfl) (fun _=>rfl) fun l=> ?_
  simp only [eJ,Ie,GY];constructor
  · rintro⟨g1,g2⟩;exact⟨⟨by omega,by omega,by omega⟩,fun z hz=>by have:=g2 z hz;omega⟩
  · rintro⟨g1,g2⟩;exact⟨by omega,fun z hz=>by have:=g2 z hz;omega⟩
def Qc(s:List UInt8):Rd (List Ins):=fun a=>match num s 2 (fun z=>wi z 1 256) a with| .error e=> .error e| .ok (n,a1)=>rep (Lz s) n.toNat a1
theorem Z0:LR Qc (fun l=>Ij (HS l.length) 2++(l.map iB).flatten) (fun l=>(1≤l.length/\l.length≤256)/\∀y∈l,Tu y):=by
  have:=Vn cI (many:=2) (least:=1) (most:=256) Ae Ae (R':=Qc) (fun s a=>rfl);refine this.of (fun _ _=>rfl) (fun _=>rfl) fun l=> ?_
  simp only [lz,Ie];refine and_congr_left fun _=> ?_
  omega
def dL(s:List UInt8):Rd (Int×List Ins):=fun a=>match num s 1 (fun z=>wi z 0 32) a with| .error e=> .error e| .ok (x,a1)=>(match Qc s a1 with| .error e=> .error e| .ok (y,a2)=> .ok ((x,y),a2))
def gj(n:Nat)(s:List UInt8):Rd (Int×Int×List Ins):=fun a=>match num s 1 (fun z=>wi z n 16) a with| .error e=> .error e| .ok (x,a1)=>(match dL s a1 with| .error e=> .error e| .ok (y,a2)=> .ok ((x,y),a2))
theorem ZZ (most cl:Int)(hm:most≤255)(hc:cl≤255):LR (fun s=>FW s most cl) mB (Pt most cl):=by
  have FB:=LR.bind (IP 1 (fun z=>wi z 0 32) Ae) (R2:=fun _=>Qc) (fun _ _=>Z0) (mk:=fun x y=>((x,y):Int×List Ins)) (fs:=Prod.fst) (sn:=Prod.snd) (R:=dL) (fun _ _ _ _=>rfl) (fun _ _=>rfl) (fun _=>rfl) (fun s a=>by
      unfold dL;cases num s 1 (fun z=>wi z 0 32) a with
      |error e=>rfl
      | ok q=>
        obtain⟨x,a1⟩:=q;dsimp only;cases Qc s a1 <;>rfl)
  have WK:=fun n:Nat=>LR.bind (IP 1 (fun z=>wi z n 16) Ae) (R2:=fun _=>dL) (fun _ _=>FB) (mk:=fun x y=>((x,y):Int×Int×List Ins)) (fs:=Prod.fst) (sn:=Prod.snd) (R:=gj n) (fun _ _ _ _=>rfl) (fun _ _=>rfl) (fun _=>rfl) (fun s a=>by
      unfold gj;cases num s 1 (fun z=>wi z n 16) a with
      |error e=>rfl
      | ok q=>
        obtain⟨x,a1⟩:=q;dsimp only;cases dL s a1 <;>rfl)
  have := LR.bind (Sh most cl hm hc) (R2:=fun ps=>gj ps.length) (fun ps _=>WK ps.length) (mk:=fun ps q=>(⟨ps,q.1,q.2.1,q.2.2⟩:Me)) (fs:=Me.params) (sn:=fun m=>(m.lo,m.st,m.code)) (R:=fun s=>FW s most cl) (fun _ _ _ _=>rfl) (fun _ _=>rfl) (fun _=>rfl) (fun s a=>by
    show FW s most cl a=_;unfold FW gj dL Qc;cases ER s most cl a with
    |error e=>rfl
    | ok q=>
      obtain⟨ps,a1⟩:=q;dsimp only;cases num s 1 (fun z=>wi z ps.length 16) a1 with
      |error e=>rfl
      | ok q=>
        obtain⟨lo,a2⟩:=q;dsimp only;cases num s 1 (fun z=>wi z 0 32) a2 with
        |error e=>rfl
        | ok q=>
          obtain⟨st,a3⟩:=q;dsimp only;cases num s 2 (fun z=>wi z 1 256) a3 with
          |error e=>rfl
          | ok q=>
            obtain⟨n,a4⟩:=q;dsimp only;cases rep (Lz s) n.toNat a4 with
            |error e=>rfl
            |ok q=>rfl)
  refine this.of (fun _ _=>rfl) (fun _=>rfl) fun m=> ?_
  simp only [eJ,Ie,Pt];constructor
  · rintro⟨g1,g2,g3,g4,g5⟩;exact⟨g1,⟨by omega,by omega⟩,⟨by omega,by omega⟩,g4,g5⟩
  · rintro⟨g1,g2,g3,g4,g5⟩;exact⟨g1,by omega,by omega,g4,g5⟩
def Ub(cl:Int)(s:List UInt8):Rd (List Me):=fun a=>match num s 1 (fun z=>wi z 1 32) a with| .error e=> .error e| .ok (k,a1)=>(match PQ s cl k.toNat a1 with| .error e=> .error e| .ok (l,a2)=> .ok (l,a2))
theorem cG(cl:Int)(hc:cl≤255):LR (Ub cl) (fun l=>Ij (HS l.length) 1++(l.map mB).flatten) (fun l=>(1≤l.length/\l.length≤32)/\∀i m,l[i]?=some m->Pt (if i=0 then 0 else 16) cl m):=by
  have h1:=X9 (R:=fun k s=>FW s (if k=0 then 0 else 16) cl) (B:=mB) (p:=fun i=>Pt (if i=0 then 0 else 16) cl) (fun i=>ZZ _ cl (by split <;>decide) hc) (RR:=fun k s=>PQ s cl k) (fun _ _=>rfl) (fun k s a=>by
    simp only [PQ];cases PQ s cl k a with
    |error e=>rfl
    | ok q=>
      obtain⟨l,a1⟩:=q;dsimp only;cases FW s (if k=0 then 0 else 16) cl a1 <;>rfl)
  have:=LR.bind (IP 1 (fun z=>wi z 1 32) Ae) (R2:=fun k s=>PQ s cl k.toNat) (p2:=fun k l=>l.length=k.toNat/\∀i m,l[i]?=some m->Pt (if i=0 then 0 else 16) cl m) (fun k _=>h1 k.toNat)
    (mk :=fun _ l=>l) (fs:=fun l:List Me=>(l.length:Int)) (sn:=fun l=>l) (R:=Ub cl) (fun n l h1 h2=>by have:=h1.2;simp only [Ie] at this;have:=h2.1;omega) (fun _ _=>rfl) (fun _=>rfl) (fun s a=>by
      unfold Ub;cases num s 1 (fun z=>wi z 1 32) a with
      |error e=>rfl
      | ok q=>
        obtain⟨x,a1⟩:=q;dsimp only;cases PQ s cl x.toNat a1 <;>rfl)
  refine this.of (fun _ _=>rfl) (fun _=>rfl) fun l=> ?_
  simp only [eJ,Ie,Int.toNat_natCast,true_and];refine and_congr_left fun _=> ?_
  omega
def OG(n:Int)(s:List UInt8):Rd Im:=fun a=>match rep (ER s 8 n) n.toNat a with| .error e=> .error e| .ok (cls,a2)=>(match Ub n s a2 with| .error e=> .error e| .ok (ms,a4)=> .ok (⟨cls,ms⟩,a4))
def Us(s:List UInt8):Rd Im:=fun a=>match num s 1 (fun z=>wi z 0 16) a with| .error e=> .error e| .ok (n,a1)=>(match OG n s a1 with| .error e=> .error e| .ok (x,a2)=> .ok (x,a2))
theorem Z1(n:Int)(hc:n≤255):LR (OG n) (fun x:Im=>(x.cls.map kB).flatten++(Ij (HS x.ms.length) 1++(x.ms.map mB).flatten)) (fun x=>(x.cls.length=n.toNat/\∀f∈x.cls,GY 8 n f)/\(1≤x.ms.length/\x.ms.length≤32)/\∀i m,x.ms[i]?=some m->Pt (if i=0 then 0 else 16) n m):=by
  have:=LR.bind (Vm (Sh 8 n Ae hc) n.toNat) (R2:=fun _=>Ub n) (fun _ _=>cG n hc) (mk:=fun c m=>(⟨c,m⟩:Im)) (fs:=Im.cls) (sn:=Im.ms) (R:=OG n) (fun _ _ _ _=>rfl) (fun _ _=>rfl) (fun _=>rfl) (fun s a=>by
      unfold OG;cases rep (ER s 8 n) n.toNat a with
      |error e=>rfl
      | ok q=>
        obtain⟨x,a1⟩:=q;dsimp only;cases Ub n s a1 <;>rfl)
  exact this.of (fun _ _=>rfl) (fun _=>rfl) fun x=>Iff.rfl
theorem Ya:LR Us (fun x:Im=>Ij (HS x.cls.length) 1++((x.cls.map kB).flatten++(Ij (HS x.ms.length) 1++(x.ms.map mB).flatten))) UY:=by
  have:=LR.bind (IP 1 (fun z=>wi z 0 16) Ae) (R2:=OG) (fun n h=>Z1 n (by have:=h.2;simp only [Ie] at this;omega)) (mk:=fun _ x=>x) (fs:=fun x:Im=>(x.cls.length:Int)) (sn:=fun x=>x) (R:=Us)
    (fun n x h1 h2=>by have:=h1.2;simp only [Ie] at this;have:=h2.1.1;omega) (fun _ _=>rfl) (fun _=>rfl) (fun s a=>by
      unfold Us;cases num s 1 (fun z=>wi z 0 16) a with
      |error e=>rfl
      | ok q=>
        obtain⟨x,a1⟩:=q;dsimp only;cases OG x s a1 <;>rfl)
  refine this.of (fun _ _=>rfl) (fun _=>rfl) fun x=> ?_
  simp only [eJ,Ie,Int.toNat_natCast,true_and,UY];constructor
  · rintro⟨g1,g2,g3,g4⟩;exact⟨by omega,g2,g3,g4⟩
  · rintro⟨g1,g2,g3,g4⟩;exact⟨by omega,g2,g3,g4⟩
theorem Te(s:List UInt8):Mu s=if s.take 3= [68,75,1] then(match Us s 3 with| .error e=> .error e| .ok (x,a)=>if a=s.length then .ok x else .error a) else .error 0:=by
  unfold Mu Us OG Ub;by_cases hp:s.take 3= [68,75,1]
  · rw [if_pos hp,if_pos hp];cases num s 1 (fun z=>wi z 0 16) 3 with
    |error e=>rfl
    | ok q=>
      obtain⟨n,a1⟩:=q;dsimp only;cases rep (ER s 8 n) n.toNat a1 with
      |error e=>rfl
      | ok q=>
        obtain⟨cls,a2⟩:=q;dsimp only;cases num s 1 (fun z=>wi z 1 32) a2 with
        |error e=>rfl
        | ok q=>
          obtain⟨k,a3⟩:=q;dsimp only;cases PQ s n k.toNat a3 with
          |error e=>rfl
          |ok q=>rfl
  · rw [if_neg hp,if_neg hp]
theorem aC{x:Im}(h:UY x):Mu (Vq x)= .ok x:=by
  have:=Ya.wr [68,75,1] [] x h;rw [List.append_nil] at this
  rw [Te,if_pos (by simp [Vq])];rw [show Us (Vq x) 3=_ from this];simp [Vq];omega
theorem dh{s:List UInt8}{x:Im}(h:Mu s= .ok x):Vq x=s/\UY x:=by
  rw [Te] at h
  split at h
  · rename_i hp
    have hl:3≤s.length:=by have:=congrArg List.length hp;simp at this;omega
    cases e:Us s 3 with
    |error e'=>rw [e] at h;cases h
    | ok q=>
      obtain⟨y,a⟩:=q;rw [e] at h
      dsimp only at h
      split at h
      · rename_i ha
        cases h
        obtain⟨g1,u,v,g2,g3,g4⟩:=Ya.un s 3 a x hl e;have hv:v= []:=by
          have:=congrArg List.length g2;simp only [List.length_append] at this g4
          exact List.length_eq_zero_iff.1 Ab
        have hu:u= [68,75,1]:=by
          rw [<-hp,g2,g3];simp
        refine⟨?_,g1⟩;rw [hv,hu] at g2
        rw [g2];simp [Vq]
      · cases h
  · cases h
theorem KE{l:List Int}{most cl:Int}:HG l most cl=true↔GY most cl l:=by
  simp only [HG,Bool.and_eq_true,decide_eq_true_eq,Bool.not_eq_true',GY,List.any_eq_false,Z6,wi,Bool.not_eq_true',decide_eq_false_iff_not,Decidable.not_not]
theorem Sc{m:Me}{most cl:Int}(hI:∀y∈m.code,Ze y.a/\Ze y.b):Hp m most cl=true↔Pt most cl m:=by
  have h1:(m.code.any Pa=false)↔∀y∈m.code,0≤y.op/\y.op≤255:=by
    simp only [List.any_eq_false,Pa,wi,Bool.not_eq_true',decide_eq_false_iff_not,Decidable.not_not]
  simp only [Hp,Bool.and_eq_true,KE,Ie,Bool.not_eq_true',h1,Pt,Tu];constructor
  · rintro⟨g1,g2,g3,g4,g5⟩;exact⟨g1,g2,g3,by omega,fun y hy=>⟨g5 y hy,hI y hy⟩⟩
  · rintro⟨g1,g2,g3,g4,g5⟩;exact⟨g1,g2,g3,by omega,fun y hy=>(g5 y hy).1⟩
def fU(x:Im):Prop:=∀m∈x.ms,∀y∈m.code,Ze y.a/\Ze y.b
theorem GY.le{a b cl:Int}{l:List Int}(h:GY a cl l)(nJ:a≤b):GY b cl l:=⟨by have:=h.1;omega,h.2⟩
theorem Sf{x:Im}(hI:fU x):Pf x=true↔UY x:=by
  have hm:∀m∈x.ms,∀most cl:Int,Hp m most cl=true↔Pt most cl m:=fun m hm most cl=>Sc (hI m hm)
  unfold Pf;simp only [Bool.and_eq_true,decide_eq_true_eq,Bool.not_eq_true',Ie,List.any_eq_false,Pr,Pe,Bool.not_eq_true',Bool.not_eq_false];constructor
  · rintro⟨g1,g2,g3,g4,g5⟩;refine⟨by omega,fun f hf=>KE.1 (g4 f hf),by omega,fun i m hi=> ?_⟩;have bo:=List.mem_of_getElem? hi
    split
    · rename_i e
      subst e;rw [hi] at g3
      exact(hm m bo _ _).1 g3
    · exact(hm m bo _ _).1 (g5 m bo)
  · rintro⟨g1,g2,g3,g4⟩;refine⟨by omega,by omega,?_,fun f hf=>KE.2 (g2 f hf),fun m bo=> ?_⟩
    · obtain⟨m,Uy⟩:∃m,x.ms[0]?=some m:=⟨_,List.getElem?_eq_getElem Ab⟩;rw [Uy];exact(hm m (List.mem_of_getElem? Uy) _ _).2 (g4 0 m Uy)
    · obtain⟨i,hi⟩:=List.mem_iff_getElem?.1 bo;refine(hm m bo _ _).2 ?_;have:=g4 i m hi
      split at this
      · exact⟨this.1.le Ae,this.2⟩
      · exact this
end Go.Proofs.YtcnmnmjmpocepaaGreatDoor.Cd
end
section
namespace Go.Proofs.YtcnmnmjmpocepaaGreatDoor.Cd
open Go.SL
theorem OQ.shape{K:B6}{x:Im}{v:Value}(h:OQ K x v):∃a b c d e f,v= .agg ⟨[.slice a b c,.slice d e f]⟩:=by
  obtain⟨a,b,c,d,e,f,h, -⟩:=h;exact⟨a,b,c,d,e,f,h⟩
attribute [local irreducible] SL.T C7 Dc C6 Db DS Du
end Go.Proofs.YtcnmnmjmpocepaaGreatDoor.Cd
end
