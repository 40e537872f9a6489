
import Derived.Test.YtcnmnmjmpocepaaGreatDoorU00
import Derived.Test.YtcnmnmjmpocepaaGreatDoorU11
import Derived.Test.YtcnmnmjmpocepaaGreatDoorU44
import Derived.Test.YtcnmnmjmpocepaaGreatDoorU42
set_option linter.unusedVariables false
set_option linter.unusedSimpArgs false
set_option linter.unusedSectionVars false
set_option maxRecDepth 100000
set_option maxHeartbeats 16000000
namespace Go.Proofs.YtcnmnmjmpocepaaGreatDoor
open Kd
def Labs(cs:List Nd.Ins)(aX:Nat->List Int):Prop:=
  aX 0= []/\∀z,z<cs.length->∃s,Nd.Hd cs z (aX z)=some s/\∀t∈Nd.GG cs (z:Int),0≤t->t<cs.length->aX t.toNat=s
theorem labs_run{cs:List Nd.Ins}{aX:Nat->List Int}(h:Labs cs aX)(hl:0<cs.length):∀n,(∀z∈(Nd.GS.run cs n).V,(0≤z/\z<cs.length)/\(Nd.GS.run cs n).CX z=aX z.toNat)/\∀r,(Nd.GS.run cs n).res=some r->r= -1
  |0=>⟨fun z hz=>by rw [List.mem_singleton.1 hz];exact⟨by omega,h.1.symm⟩,fun r hr=>by cases hr⟩
  | n + 1 =>by
    have ih:=labs_run h hl n;rw [Nd.GS.run,Nd.GS.step]
    generalize Nd.GS.run cs n=g at ih
    split
    · exact ih
    · rename_i LA
      split
      · exact⟨ih.1,fun r hr=>by cases hr;rfl⟩
      · rename_i z hz
        obtain⟨hr,hs⟩:=ih.1 z (List.mem_of_getElem? hz);obtain⟨s,e1,e2⟩:=h.2 z.toNat Ab;rw [show((z.toNat:Nat):Int)=z by omega] at e2
        rw [hs,e1];dsimp only
        split
        · exact ih
        · rename_i t ht
          split
          · rename_i htr
            have e3:=e2 t (List.mem_of_getElem? ht) htr.1 htr.2
            split
            · rename_i hv
              rw [if_pos ((ih.1 t hv).2.trans e3)];exact ih
            · rename_i hv
              exact⟨fun u hu=>by
                dsimp only at hu ⊢
                rcases List.mem_append.1 hu with hu|hu
                · rw [if_neg (fun e:u=t=>hv (e▸hu))];exact ih.1 u hu
                · obtain rfl:=List.mem_singleton.1 hu;exact⟨htr,by rw [if_pos rfl,e3]⟩,ih.2⟩
          · exact ih
theorem labs_right{cs:List Nd.Ins}{aX:Nat->List Int}(h:Labs cs aX)(hl:0<cs.length):Nd.L0 cs= -1:=by
  unfold Nd.L0;cases hr:(Nd.LM cs).res with
  |none=>rfl
  | some r=>
    have:∃n,Nd.LM cs=Nd.GS.run cs n:=by
      unfold Nd.LM at hr ⊢
      split
      · exact⟨_,rfl⟩
      · rename_i hn;rw [dif_neg hn] at hr;cases hr
    obtain⟨n,e⟩:=this;exact(labs_run h hl n).2 r (by rw [<-e];exact hr)
theorem toN_at{c:List Ins}{z:Nat}{y:Ins}(h:c[z]?=some y):(FH c)[z]?=some (y.op,y.a,y.b):=by
  unfold FH;rw [List.getElem?_map,h];rfl
theorem no20:¬Nd.jmp 20:=by decide
theorem no5:¬Nd.GD 6/\¬Nd.GD 7/\¬Nd.GD 20:=by decide
theorem goesOn_no{op:Int}(h:goesOn op):¬Nd.jmp op:=by
  obtain⟨h1,h2,h3,h4⟩:=h;unfold Nd.jmp;simp;omega
theorem stA_on{p:Option Ins}{y:Ins}{x x':Kn}(h:stA p y x=some x'):goesOn y.op/\stepA y x.1=some x'.1/\lockA p y x.2=some x'.2:=by
  unfold stA at h
  split at h
  · rename_i f l h1 h2
    cases h
    refine⟨?_,h1,h2⟩;unfold stepA at h1
    split at h1
    · assumption
    · cases h1
  · cases h
section
variable {c:List Ins} {μ:List La} {pre:Kn} (h:Fr (fun _=>none) 0 c μ pre [])
include h
theorem fr_at{i:Nat}{y:Ins}(hy:c[i]?=some y):∃x t,μ[i]?=some (x,t)/\Ok (fun _=>none) 0 c μ i x t y:=by
  have:=h.ok i y hy
  rwa [List.append_nil] at this
theorem fr_next{i:Nat}{y:Ins}(hy:c[i]?=some y){t:Int}(ht:t∈Nd.GG (FH c) (i:Int)):0≤t/\t<c.length:=by
  obtain⟨x,tt,m1,m2⟩:=fr_at h hy;have l:=h.len;rw [Nd.Lt (toN_at hy)] at ht
  have lt:∀ {j:Nat} {n:La},μ[j]?=some n->j<c.length:=fun q=>by have:=(List.getElem?_eq_some_iff.1 q).1;omega
  have may:∀ {a:Int} {x:Kn},May (fun _=>none) 0 μ a x->0≤a/\a<c.length:=by
    rintro a x (⟨j,w,e1,e2,e3⟩|⟨k,w,e1,e2,e3⟩)
    · have:=lt e2;omega
    · cases e2
  have q:=Nd.Iy.1 ht;dsimp only at q
  cases m2 with
  | plain hs hn hl h5=>
    have hg:=(stA_on hs).1;have:=lt hn;rcases q with ⟨q,_⟩|⟨_,q⟩
    · exact absurd q (goesOn_no hg)
    · omega
  | jump hx hm hn ht'=>
    rcases q with ⟨_,q⟩|⟨⟨q,_⟩,_⟩
    · rw [q];exact may hm
    · exact absurd rfl q
  | zero hx hm hn ht' hl=>
    have:=lt hn;rcases q with ⟨_,q⟩|⟨_,q⟩
    · rw [q];exact may hm
    · omega
  | ret hx hl hi=>
    rcases q with ⟨q,_⟩|⟨⟨_,q⟩,_⟩
    · exact absurd q no20
    · exact absurd rfl q
theorem fr_off(h0:0<c.length):Nd.off (FH c)<0:=by
  rw [Nd.R4 (fun j hj=> ?_)]
  · rw [if_neg (by rw [Dk];omega)];decide
  · rw [Dk] at hj
    unfold Nd.bad;rw [List.any_eq_false];intro t ht;obtain⟨y,hy⟩:∃y,c[j]?=some y:=⟨_,List.getElem?_eq_getElem hj⟩;have:=fr_next h hy ht;unfold Nd.L1;rw [Dk];simp;omega
def labL(μ:List La)(z:Nat):List Int:=((μ[z]?).map fun n=>n.1.2).getD []
omit h in
theorem labL_at{z:Nat}{n:La}(e:μ[z]?=some n):labL μ z=n.1.2:=by unfold labL;rw [e];rfl
theorem fr_lead{z:Nat}{x:Kn}(hz:μ[z]?=some (x,false))(h0:z≠0):(z:Int)∉Nd.leads (FH c):=by
  intro hm;obtain⟨⟨_,Em⟩,hA⟩:=Nd.Wq.1 hm;rw [Dk] at Em
  rcases Nd.Wt.1 hA with q|⟨k,hk,hF⟩
  · omega
  · rw [Dk] at hk
    obtain⟨y,hy⟩:∃y,c[k]?=some y:=⟨_,List.getElem?_eq_getElem hk⟩;rw [List.getD_eq_getElem?_getD,toN_at hy] at hF
    dsimp only [Option.getD_some] at hF
    obtain⟨xk,tk,m1,m2⟩:=fr_at h hy;have may:∀ {a:Int} {x':Kn},May (fun _=>none) 0 μ a x'->(z:Int)=a->False:=by
      rintro a x' (⟨j,w,e1,e2,e3⟩|⟨k,w,e1,e2,e3⟩) e
      · obtain rfl:j=z:=by omega
        rw [hz] at e2;cases e2
      · cases e2
    have behind:∀ {n:La},μ[k+1]?=some n->n.2=true->(z:Int)=(k:Int)+1->False:=fun hn ht e=>by
      obtain rfl:z=k+1:=by omega
      rw [hz] at hn;cases hn;cases ht
    have q:=Nd.Wr.1 hF;dsimp only at q
    cases m2 with
    | plain hs hn hl h5=>
      have hg:=(stA_on hs).1;rcases q with ⟨q,_⟩|⟨q|q,_⟩
      · exact goesOn_no hg q
      · exact goesOn_no hg q
      · exact hg.2.2.2 q
    | jump hx hm hn ht'=>
      rcases q with ⟨_,q⟩|⟨_,q⟩
      · exact may hm q
      · exact behind hn ht' q
    | zero hx hm hn ht' hl=>
      rcases q with ⟨_,q⟩|⟨_,q⟩
      · exact may hm q
      · exact behind hn ht' q
    | ret hx hl hi=>
      rcases q with ⟨q,_⟩|⟨_,q⟩
      · exact absurd q no20
      · omega
theorem fr_labs (h0:0<c.length)(hp:pre.2= []):Labs (FH c) (labL μ):=by
  have l:=h.len;refine⟨?_,fun z hz=> ?_⟩
  · obtain⟨x,q1,q2⟩:=h.first;rw [List.append_nil] at q1
    rw [labL_at q1,<-q2.2,hp]
  · rw [Dk] at hz
    obtain⟨y,hy⟩:∃y,c[z]?=some y:=⟨_,List.getElem?_eq_getElem hz⟩;obtain⟨x,t,m1,m2⟩:=fr_at h hy;rw [labL_at m1];have hyN:=toN_at hy;have nx:∀ {u:Int},u∈Nd.GG (FH c) (z:Int)->(Nd.jmp y.op/\u=y.a)∨((y.op≠6/\y.op≠20)/\u=(z:Int)+1):=fun hu=>by
      rw [Nd.Lt hyN] at hu;exact Nd.Iy.1 hu
    have beh:¬Nd.GD y.op->∀s s',Nd.Qb y.op y.a s=some s'->Nd.Hd (FH c) z s=some s':=fun h5 s s' hd=>by
      unfold Nd.Hd;rw [List.getD_eq_getElem?_getD,hyN];dsimp only [Option.getD_some];rw [if_neg (fun hh=>h5 hh.1)];have:∀k,Nd.Qb y.op (if y.op=3 then y.a else k) s=Nd.Qb y.op y.a s:=fun k=>by
        have h5':=mt Nd.LH.2 h5;by_cases h3:y.op=3
        · rw [if_pos h3]
        · rw [if_neg h3];have n12:¬y.op=12:=fun e=>h5' Ab
          have n13:¬y.op=13:=fun e=>h5' Ab
          have n14:¬(y.op=14∨y.op=15∨y.op=16):=fun e=>h5' Ab
          simp only [Nd.Qb,n12,n13,n14,h3,if_false]
      rw [this];exact hd
    have may:∀ {a:Int} {x':Kn},May (fun _=>none) 0 μ a x'->labL μ a.toNat=x'.2:=by
      rintro a x' (⟨j,w,e1,e2,e3⟩|⟨k,w,e1,e2,e3⟩)
      · rw [show a.toNat=j by omega,labL_at e2];exact e3.2.symm
      · cases e2
    have at1:((z:Int)+1).toNat=z+1:=by omega
    cases m2 with
    | @plain _ x' n hs hn hl h5=>
      obtain⟨g1,g2,g3⟩:=stA_on hs;have next:∀u∈Nd.GG (FH c) (z:Int),0≤u->u<(FH c).length->labL μ u.toNat=x'.2:=fun u hu _ _=>by
        rcases nx hu with ⟨q,_⟩|⟨_,rfl⟩
        · exact absurd q (goesOn_no g1)
        · rw [at1,labL_at hn];exact hl.2.symm
      refine⟨x'.2,?_,next⟩;unfold lockA at g3
      by_cases hf:Nd.GD y.op
      · rw [if_pos hf] at g3
        obtain rfl:=h5 hf;by_cases eU:z=0
        · rw [if_pos eU] at g3;cases g3
        · rw [if_neg eU] at g3
          split at g3
          · cases g3
          · rename_i q hq
            split at g3
            · rename_i j1
              have hlead:=fr_lead h m1 eU;obtain⟨j,rfl⟩:∃j,z=j+1:=⟨z - 1,by omega⟩;rw [Nat.add_sub_cancel] at hq
              have hqN:=toN_at hq;have hask:Nd.KW (FH c) ((j+1:Nat):Int)=some q.a:=by
                rw [Nd.VC hyN hqN,if_pos ⟨hf,hlead,j1⟩]
              unfold Nd.Hd;rw [List.getD_eq_getElem?_getD,hyN];dsimp only [Option.getD_some];rw [hask,if_neg (fun hh=>by cases hh.2),if_neg (fun h3=>by rw [h3] at hf;exact absurd hf Ae)];exact g3
            · cases g3
      · rw [if_neg hf] at g3
        exact beh hf _ _ g3
    | jump hx hm hn ht'=>
      refine⟨x.2,beh no5.1 _ _ rfl,fun u hu _ _=> ?_⟩;rcases nx hu with ⟨_,rfl⟩|⟨⟨q,_⟩,_⟩
      · exact may hm
      · exact absurd rfl q
    | zero hx hm hn ht' hl=>
      refine⟨x.2,beh no5.2.1 _ _ rfl,fun u hu _ _=> ?_⟩;rcases nx hu with ⟨_,rfl⟩|⟨_,rfl⟩
      · exact may (x':=((x.1.1,[]),x.2)) hm
      · rw [at1,labL_at hn];exact hl.2.symm
    | ret hx hl hi=>
      refine⟨x.2,beh no5.2.2 _ _ (by rw [hl];rfl),fun u hu _ _=> ?_⟩;rcases nx hu with ⟨q,_⟩|⟨⟨_,q⟩,_⟩
      · exact absurd q no20
      · exact absurd rfl q
end
def Lbl(im:Im)(mi:Int)(n:Nat)(nx:Nat->List Nat)(Γ:Nat->Option Fm):Prop:=
  ∀a,a<n->∃F G,Γ a=some F/\Dv im mi a F.1 F.2= .inr G/\∀t∈nx a,t<n/\∃H,Γ t=some H/\Win G H
def Inv(n:Nat)(Γ:Nat->Option Fm)(σ:Fs):Prop:=σ.length=n/\∀a g,σ[a]?=some (some g)->∃F,Γ a=some F/\Win g F
theorem win_join2{f g F:Fm}(h1:Win g F)(h2:Win f F):Win (CP g.1 f.1,g.2) F:=by
  rw [win_iff] at*
  refine⟨(Dz (h1.1.trans h2.1.symm)).trans h1.1,h1.2.1,fun i x hx=> ?_⟩;rcases h1.2.2 i x hx with q|q
  · exact .inl q
  · rcases h2.2.2 i x hx with q2|q2
    · exact .inl q2
    · right
      simp [CP,List.getElem?_zipWith,q,q2]
theorem goesV_inv{n:Nat}{Γ:Nat->Option Fm}{σ:Fs}{t:Nat}{f F:Fm}(h:Inv n Γ σ)(hF:Γ t=some F)(hw:Win f F):∃Dj c,E1 σ t f= .ok (Dj,c)/\Inv n Γ Dj:=by
  have set:∀g,Win g F->Inv n Γ (σ.set t (some g)):=fun g hg=>by
    refine⟨by rw [List.length_set];exact h.1,fun a g' ha=> ?_⟩;by_cases e:a=t
    · subst e;rw [List.getElem?_set_self'] at ha
      cases hq:σ[a]? with
      |none=>rw [hq] at ha;cases ha
      |some o=>rw [hq] at ha;cases ha;exact⟨F,hF,hg⟩
    · rw [List.getElem?_set_ne Ab] at ha
      exact h.2 a g' ha
  unfold E1
  split
  · exact⟨_,_,rfl,h⟩
  · exact⟨_,_,rfl,set f hw⟩
  · rename_i g e
    obtain⟨F',e1,e2⟩:=h.2 t g e;rw [hF] at e1;cases e1
    rw [if_pos ⟨e2.1.trans hw.1.symm,e2.2.1.trans hw.2.1.symm⟩];exact⟨_,_,rfl,set _ (win_join2 e2 hw)⟩
theorem goAll_inv{n:Nat}{Γ:Nat->Option Fm}{f:Fm}:∀ {ts:List Nat} {σ:Fs} {b:Bool},Inv n Γ σ->(∀t∈ts,∃F,Γ t=some F/\Win f F)->∃Dj c,Gb σ f ts b= .ok (Dj,c)/\Inv n Γ Dj
  | [],σ,b,h,_=>⟨σ,b,rfl,h⟩
  | t::ts,σ,b,h,hw=>by
    obtain⟨F,q1,q2⟩:=hw t (List.mem_cons_self ..);obtain⟨Rl,c1,e1,h1⟩:=goesV_inv h q1 q2;unfold Gb;rw [e1];exact goAll_inv h1 fun t' ht=>hw t' (List.mem_cons_of_mem _ ht)
theorem placeV_inv{im:Im}{mi:Int}{n:Nat}{nx:Nat->List Nat}{Γ:Nat->Option Fm}(hL:Lbl im mi n nx Γ){σ:Fs}{a:Nat}{b:Bool}(h:Inv n Γ σ):∃Dj c,Fw im mi nx σ a b= .ok (Dj,c)/\Inv n Γ Dj:=by
  unfold Fw
  split
  · rename_i g e
    have ha:a<n:=by rw [<-h.1];exact(List.getElem?_eq_some_iff.1 e).1
    obtain⟨F,q1,q2⟩:=h.2 a g e;obtain⟨F',G,p1,p2,p3⟩:=hL a ha;rw [q1] at p1;cases p1
    obtain⟨g',r1,r2⟩:=win_step q2 p2;rw [r1];exact goAll_inv h fun t ht=>by
      obtain⟨_,H,s1,s2⟩:=p3 t ht;exact⟨H,s1,r2.trans s2⟩
  · exact⟨_,_,rfl,h⟩
theorem roundV_inv{im:Im}{mi:Int}{n:Nat}{nx:Nat->List Nat}{Γ:Nat->Option Fm}(hL:Lbl im mi n nx Γ):∀ {l:List Nat} {σ:Fs} {b:Bool},Inv n Γ σ->∃Dj c,D1 im mi nx σ l b= .ok (Dj,c)/\Inv n Γ Dj
  | [],σ,b,h=>⟨σ,b,rfl,h⟩
  | a::l,σ,b,h=>by
    obtain⟨Rl,c1,e1,h1⟩:=placeV_inv (a:=a) (b:=b) hL h;unfold D1;rw [e1];exact roundV_inv hL h1
theorem Ew.inv{im:Im}{mi:Int}{n:Nat}{nx:Nat->List Nat}{Γ:Nat->Option Fm}(hL:Lbl im mi n nx Γ){σ:Fs}{r:Except Er Fs}(h:Ew im mi nx n σ r):Inv n Γ σ->∃Dj,r= .ok Dj/\Inv n Γ Dj:=by
  induction h with
  | bad h=>
    intro hi;obtain⟨Dj,c,e,_⟩:=roundV_inv (l:=List.range n) (b:=false) hL hi;rw [e] at h;cases h
  | done h=>
    intro hi;obtain⟨Dj,c,e,h2⟩:=roundV_inv (l:=List.range n) (b:=false) hL hi;rw [e] at h;cases h
    exact⟨_,rfl,h2⟩
  | more h _ ih=>
    intro hi;obtain⟨Dj,c,e,h2⟩:=roundV_inv (l:=List.range n) (b:=false) hL hi;rw [e] at h;cases h
    exact ih h2
theorem afterC_F{y:Ins}{loc CX:List Int}{r:Row}{f:Fm}(h:afterC 6 y loc CX r=some f):
    (if r.is=false then(.inl 8:Int ⊕ (List Int×List Int)) else if CX.length<r.take.length∨¬JB (CX.drop (CX.length - r.take.length)) r.take=true∨ -1∈r.put then .inl 9
      else if(6:Int)<((CX.length - r.take.length+r.put.length:Nat):Int) then .inl 9
      else .inr (if y.op=3 then loc.set y.a.toNat (CX.getD (CX.length - r.take.length) 0) else loc,CX.take (CX.length - r.take.length)++r.put))= .inr f:=by
  unfold afterC at h
  split at h
  · cases h
  · rename_i h1
    split at h
    · cases h
    · rename_i h2
      split at h
      · cases h
      · rename_i h3
        cases h
        rw [if_neg h1,if_neg h2,if_neg h3]
section
variable {im:Im} {mi:Int} {m:Me} (hm:im.ms[mi.toNat]?=some m) (hi:FF im.ms mi=true) (FB:m.st=6) (ET:im.cls= [[0,0,2],[0,1]]) (bw:∀a,Fy im a=Fy im0 a)
include hm hi FB ET bw
theorem row_same{loc:List Int}{op a b:Int}(h:goesOn op):rowOf im m loc op a b=rowOf im0 m0 loc op a b:=by
  obtain⟨h6,h7,h8,_⟩:=h;have hf:Ef im a b=Ef im0 a b:=by unfold Ef;rw [ET];rfl
  have Kl:im.cls=im0.cls:=ET;unfold rowOf;rw [hf,Kl,bw,if_neg h6,if_neg h7,if_neg h8,if_neg h6,if_neg h7,if_neg h8]
theorem step_plain{at_:Nat}{y:Ins}{f g:Fm}(hy:m.code[at_]?=some y)(h:stepA y f=some g):Dv im mi at_ f.1 f.2= .inr g:=by
  have ha:FF m.code (at_:Int)=true:=by
    have:=(List.getElem?_eq_some_iff.1 hy).1;unfold FF;simp;omega
  unfold stepA at h
  split at h
  · rename_i hg
    split at h
    · cases h
    · rename_i r hr
      rw [M9];unfold PA;rw [if_pos hi,hm];dsimp only;rw [if_pos ha,show((at_:Int)).toNat=at_ by omega,hy];dsimp only;rw [row_same hm hi FB ET bw hg,hr];dsimp only;rw [FB];exact afterC_F h
  · cases h
theorem step_jump{at_:Nat}{a b:Int}{f:Fm}(hy:m.code[at_]?=some ⟨6,a,b⟩)(Rs:FF m.code a=true)(hx:f.2= []):Dv im mi at_ f.1 f.2= .inr f:=by
  have ha:FF m.code (at_:Int)=true:=by
    have:=(List.getElem?_eq_some_iff.1 hy).1;unfold FF;simp;omega
  rw [M9];unfold PA;rw [if_pos hi,hm];dsimp only;rw [if_pos ha,show((at_:Int)).toNat=at_ by omega,hy];dsimp only;have:rowOf im m f.1 6 a b=some ⟨true,[],[]⟩:=by unfold rowOf;simp [Rs]
  rw [this,FB,hx];obtain⟨f1,f2⟩:=f;dsimp only at hx
  subst hx
  rfl
theorem step_num{at_:Nat}{op a b:Int}{f:Fm}(hy:m.code[at_]?=some ⟨op,a,b⟩)(ho:op=7/\FF m.code a=true∨op=20)(hx:f.2= [0]):Dv im mi at_ f.1 f.2= .inr (f.1,[]):=by
  have ha:FF m.code (at_:Int)=true:=by
    have:=(List.getElem?_eq_some_iff.1 hy).1;unfold FF;simp;omega
  rw [M9];unfold PA;rw [if_pos hi,hm];dsimp only;rw [if_pos ha,show((at_:Int)).toNat=at_ by omega,hy];dsimp only;have:rowOf im m f.1 op a b=some ⟨true,[0],[]⟩:=by
    unfold rowOf;rcases ho with ⟨rfl,h⟩|rfl
    · simp [h]
    · rfl
  rw [this,FB,hx];rcases ho with ⟨rfl,h⟩|rfl <;>rfl
theorem fr_lbl{μ:List La}{pre:Kn}(h:Fr (fun _=>none) 0 m.code μ pre []):Lbl im mi m.code.length (R6 m.code m.code.length) (fun a=>(μ[a]?).map fun n=>n.1.1):=by
  intro a ha;obtain⟨y,hy⟩:∃y,m.code[a]?=some y:=⟨_,List.getElem?_eq_getElem ha⟩;obtain⟨x,t,m1,m2⟩:=fr_at h hy;have l:=h.len;have hyN:=toN_at hy;have nx:∀ {u:Nat},u∈R6 m.code m.code.length a->u<m.code.length/\((Nd.jmp y.op/\(u:Int)=y.a)∨((y.op≠6/\y.op≠20)/\u=a+1)):=fun{u} hu=>by
    unfold R6 at hu
    obtain⟨v,hv,e⟩:=List.mem_filterMap.1 hu
    split at e
    · rename_i hr
      cases e
      rw [Nd.Lt hyN] at hv
      refine⟨by omega,?_⟩;rcases Nd.Iy.1 hv with ⟨q1,q2⟩|⟨q1,q2⟩
      · exact .inl ⟨q1,by dsimp only at q2;omega⟩
      · exact .inr ⟨q1,by omega⟩
    · cases e
  have may:∀ {v:Int} {x':Kn},May (fun _=>none) 0 μ v x'->FF m.code v=true/\∀u:Nat,(u:Int)=v->∃H,(μ[u]?).map (fun n=>n.1.1)=some H/\Win x'.1 H:=by
    rintro v x' (⟨j,w,e1,e2,e3⟩|⟨k,w,e1,e2,e3⟩)
    · have:=(List.getElem?_eq_some_iff.1 e2).1;refine⟨by unfold FF;simp;omega,fun u hu=> ?_⟩;obtain rfl:u=j:=by omega
      exact⟨_,by rw [e2];rfl,e3.1⟩
    · cases e2
  have here:(μ[a]?).map (fun n=>n.1.1)=some x.1:=by rw [m1];rfl
  cases m2 with
  | @plain _ x' n hs hn hl h5=>
    obtain⟨g1,g2,g3⟩:=stA_on hs;refine⟨x.1,x'.1,here,step_plain hm hi FB ET bw hy g2,fun u hu=> ?_⟩;obtain⟨u1,⟨q,_⟩|⟨_,rfl⟩⟩:=nx hu
    · exact absurd q (goesOn_no g1)
    · exact⟨u1,_,by dsimp only;rw [hn];rfl,hl.1⟩
  | jump hx hmy hn ht'=>
    obtain⟨w1,w2⟩:=may hmy;refine⟨x.1,x.1,here,step_jump hm hi FB ET bw hy w1 hx,fun u hu=> ?_⟩;obtain⟨u1,⟨_,q⟩|⟨⟨q,_⟩,_⟩⟩:=nx hu
    · exact⟨u1,w2 u q⟩
    · exact absurd rfl q
  | zero hx hmy hn ht' hl=>
    obtain⟨w1,w2⟩:=may hmy;refine⟨x.1,(x.1.1,[]),here,step_num hm hi FB ET bw hy (.inl ⟨rfl,w1⟩) hx,fun u hu=> ?_⟩;obtain⟨u1,⟨_,q⟩|⟨_,rfl⟩⟩:=nx hu
    · exact⟨u1,w2 u q⟩
    · exact⟨u1,_,by dsimp only;rw [hn];rfl,hl.1⟩
  | ret hx hl hi'=>
    refine⟨x.1,(x.1.1,[]),here,step_num hm hi FB ET bw hy (.inr rfl) hx,fun u hu=> ?_⟩;obtain⟨u1,⟨q,_⟩|⟨⟨_,q⟩,_⟩⟩:=nx hu
    · exact absurd q no20
    · exact absurd rfl q
theorem meth_ok{μ:List La}(h:Fr (fun _=>none) 0 m.code μ ((EC m (EU m),[]),[]) [])(h0:0<m.code.length):Hf im mi m=none:=by
  have hL:=fr_lbl hm hi FB ET bw h;have hr:=FO im mi m h0;have hI:Inv m.code.length (fun a=>(μ[a]?).map fun n=>n.1.1) (F7 m m.code.length):=by
    refine⟨by simp [F7],fun a g ha=> ?_⟩;unfold F7 at ha
    by_cases e:a=0
    · subst e;rw [List.getElem?_set_self Aq] at ha
      cases ha
      obtain⟨x,q1,q2⟩:=h.first;rw [List.append_nil] at q1
      exact⟨x.1,by dsimp only;rw [q1];rfl,q2.1⟩
    · rw [List.getElem?_set_ne Ab,List.getElem?_replicate] at ha
      split at ha <;>cases ha
  obtain⟨Dj,e,_⟩:=hr.inv hL hI;have hoff:=fr_off h h0;have hw:=labs_right (fr_labs h h0 rfl) (by rw [Dk];exact h0);unfold Hf;rw [if_neg Ab,e,hw]
  rfl
end
theorem call_made(c0 c1 c2:List Ins)(a:Int):Fy (Fo c0 c1 c2) a=Fy im0 a:=by
  unfold Fy Fo im0;by_cases h:0≤a/\a<3
  · obtain⟨k,rfl⟩:∃k:Nat,a=k:=⟨a.toNat,by omega⟩;rcases k with _|_|_|k
    · rfl
    · rfl
    · rfl
    · omega
  · have e:∀l:List Me,l.length=3->FF l a=false:=fun l hl=>by unfold FF;simp;omega
    rw [if_neg (by rw [e _ rfl];decide),if_neg (by rw [e _ rfl];decide)]
theorem made_ok(b0 b1 b2:List Nat):DC (Fo (DP b0 0) (DP b1 1) (DP b2 2))=none:=by
  refine Mw fun j hj=> ?_
  have hj3:j<3:=hj;have go:∀(own:Nat) (b:List Nat),own≤2->(Fo (DP b0 0) (DP b1 1) (DP b2 2)).ms[own]?=some ⟨IK own,8,6,DP b own⟩->FM (Fo (DP b0 0) (DP b1 1) (DP b2 2)) own=none:=by
    intro own b ho hm;obtain⟨μ,hf⟩:=code_made b ho;unfold FM;rw [hm];have hi:FF (Fo (DP b0 0) (DP b1 1) (DP b2 2)).ms (own:Int)=true:=by unfold FF Fo;simp;omega
    have h0:0<(DP b own).length:=by have:=(GX b own).2.1;omega
    exact meth_ok (m:=⟨IK own,8,6,DP b own⟩) (by simpa using hm) hi rfl rfl (call_made _ _ _) hf h0
  rcases(show j=0∨j=1∨j=2 by omega) with rfl|rfl|rfl
  · exact go 0 b0 Ae rfl
  · exact go 1 b1 Ae rfl
  · exact go 2 b2 Ae rfl
end Go.Proofs.YtcnmnmjmpocepaaGreatDoor
