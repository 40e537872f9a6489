
import Derived.Test.YtcnmnmjmpocepaaGreatDoorU00
import Derived.Test.YtcnmnmjmpocepaaGreatDoorU11
import Derived.Test.YtcnmnmjmpocepaaGreatDoorU33
set_option linter.unusedVariables false
set_option linter.unusedSimpArgs false
set_option linter.unusedSectionVars false
set_option maxRecDepth 100000
set_option maxHeartbeats 16000000
section
namespace Go.Proofs.YtcnmnmjmpocepaaGreatDoor.Cd
open Go.SL
theorem XR{α:Type}{r:Rd α}{s:List UInt8}(hr:∀ {a b:Nat} {x:α},a≤s.length->r a= .ok (x,b)->b≤s.length):∀ {n a b:Nat} {l:List α},a≤s.length->rep r n a= .ok (l,b)->b≤s.length:=by
  intro n;induction n with
  |zero=>intro a b l ha h;simp only [rep] at h;cases h;exact ha
  | succ n ih=>
    intro a b l ha h;simp only [rep] at h
    split at h
    · rename_i h1
      split at h
      · rename_i h2
        cases h
        exact hr (ih ha h1) h2
      · cases h
    · cases h
theorem PU{s:List UInt8}{a b:Nat}{most cl:Int}{l:List Int}(ha:a≤s.length)(h:ER s most cl a= .ok (l,b)):b≤s.length:=by
  unfold ER at h
  split at h
  · rename_i h1
    exact XR (fun _ h=>(Hb h).2.2) (Hb h1).2.2 h
  · cases h
attribute [local irreducible] SL.T C7 Dc C6 Db DS Du
theorem Pb (E9:Nat)(s:List UInt8)(a:Nat)(most cl:Int)(hs:s.length≤9223372036854775807)(ha:a≤s.length)(hm:most≤1000):
    SL.T Tryz.prog 151 [ptr E9,i64 most,i64 cl] [GL E9 s a]
      (RQ (FW s most cl a) fun m b e o=>∃hp pb pc hc cb cc,e= .returned (.agg ⟨[.slice pb m.params.length pc,i64 m.lo,i64 m.st,.slice cb m.code.length cc]⟩)/\OS hp pb m.params.length pc 79 1 (m.params.map i64)/\OS hc cb m.code.length cc 24 3 (Cp m.code)/\m.params.length≤1000/\m.code.length≤1000/\b≤s.length/\o= [hp,hc,GL E9 s b]):=by
  unfold FW;have g0:=Lx E9 s a most cl hs ha hm;cases h0:ER s most cl a with
  | error q=>
    rw [h0] at g0
    refine Ch Tryz.func151 rfl (Nat.le_of_ble_eq_true rfl) fun F=> ?_
    repeat' (first|apply B4|refine B3 0 BY Am ?_|(refine gk 4 rfl ?_;(refine Ev rfl rfl rfl rfl rfl rfl rfl rfl (g0) ?_;rintro _ _ ⟨D6,rfl,rfl⟩;refine .inr ⟨_,rfl,?_⟩;repeat (refine C9 ?_)))|refine Cn (fun β=> ?_)|refine B0 ?_|apply B5)
    exact DB ⟨_,rfl,rfl⟩
  | ok r0 =>
    obtain⟨ps,x0⟩:=r0;rw [h0] at g0
    have Rp:x0≤s.length:=PU ha h0;dsimp only;have g1:=fun b1 b2=>Gi E9 s x0 1 b1 b2 ps.length 16 hs Rp Ae
    cases h1:num s 1 (fun z=>wi z ps.length 16) x0 with
    | error q=>
      rw [h1] at g1
      refine Ch Tryz.func151 rfl (Nat.le_of_ble_eq_true rfl) fun F=> ?_
      repeat' (first|apply B4|refine B3 0 BY Am ?_|refine B3 3 BY Ah ?_|refine B3 4 BY Ag ?_|(refine gk 4 rfl ?_;(refine B9 rfl rfl rfl rfl rfl rfl rfl rfl (CZ ps.length 16) ?_;rintro _ _ ⟨b1,b2,rfl,rfl⟩;refine⟨_,_,rfl,rfl,?_⟩))|(refine gk 4 rfl ?_;(refine B9 rfl rfl rfl rfl rfl rfl rfl rfl (g0) ?_;rintro _ _ ⟨hp,pb,pc,rfl,osp,Rp,OW,rfl⟩;refine⟨_,_,rfl,rfl,?_⟩))|(refine gk 4 rfl ?_;(refine Ev rfl rfl rfl rfl rfl rfl rfl rfl (g1 _ _) ?_;rintro _ _ ⟨D6,rfl,rfl⟩;refine .inr ⟨_,rfl,?_⟩;repeat (refine C9 ?_)))|refine B3 5 BY Ar ?_|refine Cn (fun β=> ?_)|refine Ck ?_|refine B0 ?_|apply B5)
      exact DB ⟨_,rfl,rfl⟩
    | ok r1 =>
      obtain⟨lo,x1⟩:=r1;rw [h1] at g1
      have hx1:x1≤s.length:=(Hb h1).2.2;dsimp only;have g2:=fun b1 b2=>Gi E9 s x1 1 b1 b2 0 32 hs hx1 Ae
      cases h2:num s 1 (fun z=>wi z 0 32) x1 with
      | error q=>
        rw [h2] at g2
        refine Ch Tryz.func151 rfl (Nat.le_of_ble_eq_true rfl) fun F=> ?_
        repeat' (first|apply B4|refine B3 0 BY Am ?_|refine B3 3 BY Ah ?_|refine B3 4 BY Ag ?_|(refine gk 4 rfl ?_;(refine B9 rfl rfl rfl rfl rfl rfl rfl rfl (CZ ps.length 16) ?_;rintro _ _ ⟨b1,b2,rfl,rfl⟩;refine⟨_,_,rfl,rfl,?_⟩))|(refine gk 4 rfl ?_;(refine B9 rfl rfl rfl rfl rfl rfl rfl rfl (CZ 0 32) ?_;rintro _ _ ⟨b3,b4,rfl,rfl⟩;refine⟨_,_,rfl,rfl,?_⟩))|(refine gk 4 rfl ?_;(refine B9 rfl rfl rfl rfl rfl rfl rfl rfl (g0) ?_;rintro _ _ ⟨hp,pb,pc,rfl,osp,Rp,OW,rfl⟩;refine⟨_,_,rfl,rfl,?_⟩))|(refine gk 4 rfl ?_;(refine B9 rfl rfl rfl rfl rfl rfl rfl rfl (g1 _ _) ?_;rintro _ _ ⟨rfl,rfl⟩;refine⟨_,_,rfl,rfl,?_⟩))|(refine gk 4 rfl ?_;(refine Ev rfl rfl rfl rfl rfl rfl rfl rfl (g2 _ _) ?_;rintro _ _ ⟨D6,rfl,rfl⟩;refine .inr ⟨_,rfl,?_⟩;repeat (refine C9 ?_)))|refine B3 5 BY Ar ?_|refine Cn (fun β=> ?_)|refine Ck ?_|refine B0 ?_|apply B5)
        exact DB ⟨_,rfl,rfl⟩
      | ok r2=>
        obtain⟨st,x2⟩:=r2;rw [h2] at g2
        have hx2:x2≤s.length:=(Hb h2).2.2;dsimp only;have g3:=fun b1 b2=>Gi E9 s x2 2 b1 b2 1 256 hs hx2 Ae
        cases h3:num s 2 (fun z=>wi z 1 256) x2 with
        | error q=>
          rw [h3] at g3
          refine Ch Tryz.func151 rfl (Nat.le_of_ble_eq_true rfl) fun F=> ?_
          repeat' (first|apply B4|refine B3 0 BY Am ?_|refine B3 3 BY Ah ?_|refine B3 4 BY Ag ?_|(refine gk 4 rfl ?_;(refine B9 rfl rfl rfl rfl rfl rfl rfl rfl (CZ ps.length 16) ?_;rintro _ _ ⟨b1,b2,rfl,rfl⟩;refine⟨_,_,rfl,rfl,?_⟩))|(refine gk 4 rfl ?_;(refine B9 rfl rfl rfl rfl rfl rfl rfl rfl (CZ 0 32) ?_;rintro _ _ ⟨b3,b4,rfl,rfl⟩;refine⟨_,_,rfl,rfl,?_⟩))|(refine gk 4 rfl ?_;(refine B9 rfl rfl rfl rfl rfl rfl rfl rfl (CZ 1 256) ?_;rintro _ _ ⟨b5,b6,rfl,rfl⟩;refine⟨_,_,rfl,rfl,?_⟩))|(refine gk 4 rfl ?_;(refine B9 rfl rfl rfl rfl rfl rfl rfl rfl (g0) ?_;rintro _ _ ⟨hp,pb,pc,rfl,osp,Rp,OW,rfl⟩;refine⟨_,_,rfl,rfl,?_⟩))|(refine gk 4 rfl ?_;(refine B9 rfl rfl rfl rfl rfl rfl rfl rfl (g1 _ _) ?_;rintro _ _ ⟨rfl,rfl⟩;refine⟨_,_,rfl,rfl,?_⟩))|(refine gk 4 rfl ?_;(refine B9 rfl rfl rfl rfl rfl rfl rfl rfl (g2 _ _) ?_;rintro _ _ ⟨rfl,rfl⟩;refine⟨_,_,rfl,rfl,?_⟩))|(refine gk 4 rfl ?_;(refine Ev rfl rfl rfl rfl rfl rfl rfl rfl (g3 _ _) ?_;rintro _ _ ⟨D6,rfl,rfl⟩;refine .inr ⟨_,rfl,?_⟩;repeat (refine C9 ?_)))|refine B3 5 BY Ar ?_|refine Cn (fun β=> ?_)|refine Ck ?_|refine B0 ?_|apply B5)
          exact DB ⟨_,rfl,rfl⟩
        | ok r3=>
          obtain⟨n,x3⟩:=r3;rw [h3] at g3
          obtain⟨hw, -,hx3⟩:=Hb h3;have Yv:1≤n/\n≤256:=by unfold wi at hw;simpa using hw
          obtain⟨n,rfl⟩:=Int.eq_ofNat_of_zero_le (show 0≤n by omega);dsimp only;rw [Int.toNat_natCast];have g4:=RA n E9 s x3 hs hx3 Ab;cases h4:rep (Lz s) n x3 with
          | error q=>
            rw [h4] at g4
            refine Ch Tryz.func151 rfl (Nat.le_of_ble_eq_true rfl) fun F=> ?_
            repeat' (first|apply B4|refine B3 0 BY Bb ?_|refine B3 3 BY Ah ?_|refine B3 4 BY Ag ?_|(refine gk 4 rfl ?_;(refine B9 rfl rfl rfl rfl rfl rfl rfl rfl (CZ ps.length 16) ?_;rintro _ _ ⟨b1,b2,rfl,rfl⟩;refine⟨_,_,rfl,rfl,?_⟩))|(refine gk 4 rfl ?_;(refine B9 rfl rfl rfl rfl rfl rfl rfl rfl (CZ 0 32) ?_;rintro _ _ ⟨b3,b4,rfl,rfl⟩;refine⟨_,_,rfl,rfl,?_⟩))|(refine gk 4 rfl ?_;(refine B9 rfl rfl rfl rfl rfl rfl rfl rfl (CZ 1 256) ?_;rintro _ _ ⟨b5,b6,rfl,rfl⟩;refine⟨_,_,rfl,rfl,?_⟩))|(refine gk 4 rfl ?_;(refine B9 rfl rfl rfl rfl rfl rfl rfl rfl (g0) ?_;rintro _ _ ⟨hp,pb,pc,rfl,osp,Rp,OW,rfl⟩;refine⟨_,_,rfl,rfl,?_⟩))|(refine gk 4 rfl ?_;(refine B9 rfl rfl rfl rfl rfl rfl rfl rfl (g1 _ _) ?_;rintro _ _ ⟨rfl,rfl⟩;refine⟨_,_,rfl,rfl,?_⟩))|(refine gk 4 rfl ?_;(refine B9 rfl rfl rfl rfl rfl rfl rfl rfl (g2 _ _) ?_;rintro _ _ ⟨rfl,rfl⟩;refine⟨_,_,rfl,rfl,?_⟩))|(refine gk 4 rfl ?_;(refine B9 rfl rfl rfl rfl rfl rfl rfl rfl (g3 _ _) ?_;rintro _ _ ⟨rfl,rfl⟩;refine⟨_,_,rfl,rfl,?_⟩))|(refine gk 4 rfl ?_;(refine Ev rfl rfl rfl rfl rfl rfl rfl rfl (g4) ?_;rintro _ _ ⟨D6,rfl,rfl⟩;refine .inr ⟨_,rfl,?_⟩;repeat (refine C9 ?_)))|refine B3 5 BY Ar ?_|refine Cn (fun β=> ?_)|refine Ck ?_|refine B0 ?_|apply B5)
            exact DB ⟨_,rfl,rfl⟩
          | ok r4=>
            obtain⟨code,x4⟩:=r4;rw [h4] at g4
            refine Ch Tryz.func151 rfl (Nat.le_of_ble_eq_true rfl) fun F=> ?_
            repeat' (first|apply B4|refine B3 0 BY Bb ?_|refine B3 3 BY AF ?_|refine B3 4 BY Ag ?_|(refine gk 4 rfl ?_;(refine B9 rfl rfl rfl rfl rfl rfl rfl rfl (CZ ps.length 16) ?_;rintro _ _ ⟨b1,b2,rfl,rfl⟩;refine⟨_,_,rfl,rfl,?_⟩))|(refine gk 4 rfl ?_;(refine B9 rfl rfl rfl rfl rfl rfl rfl rfl (CZ 0 32) ?_;rintro _ _ ⟨b3,b4,rfl,rfl⟩;refine⟨_,_,rfl,rfl,?_⟩))|(refine gk 4 rfl ?_;(refine B9 rfl rfl rfl rfl rfl rfl rfl rfl (CZ 1 256) ?_;rintro _ _ ⟨b5,b6,rfl,rfl⟩;refine⟨_,_,rfl,rfl,?_⟩))|(refine gk 4 rfl ?_;(refine B9 rfl rfl rfl rfl rfl rfl rfl rfl (g0) ?_;rintro _ _ ⟨hp,pb,pc,rfl,osp,Rp,OW,rfl⟩;refine⟨_,_,rfl,rfl,?_⟩))|(refine gk 4 rfl ?_;(refine B9 rfl rfl rfl rfl rfl rfl rfl rfl (g1 _ _) ?_;rintro _ _ ⟨rfl,rfl⟩;refine⟨_,_,rfl,rfl,?_⟩))|(refine gk 4 rfl ?_;(refine B9 rfl rfl rfl rfl rfl rfl rfl rfl (g2 _ _) ?_;rintro _ _ ⟨rfl,rfl⟩;refine⟨_,_,rfl,rfl,?_⟩))|(refine gk 4 rfl ?_;(refine B9 rfl rfl rfl rfl rfl rfl rfl rfl (g3 _ _) ?_;rintro _ _ ⟨rfl,rfl⟩;refine⟨_,_,rfl,rfl,?_⟩))|(refine gk 4 rfl ?_;(refine B9 rfl rfl rfl rfl rfl rfl rfl rfl (g4) ?_;rintro _ _ ⟨hc,cb,cc,rfl,osc,hx4,Kl,rfl⟩;refine⟨_,_,rfl,rfl,?_⟩))|refine B3 5 BY Ar ?_|refine Cn (fun β=> ?_)|refine Ck ?_|refine B0 ?_|apply B5|refine B8 ?_|apply Cb)
            subst Kl;exact G5 [hp,hc,GL E9 s x4] (Ce (Cv rfl rfl rfl rfl)) ⟨hp,pb,pc,hc,cb,cc,rfl,osp,osc,OW,by dsimp only;omega,hx4,rfl⟩
end Go.Proofs.YtcnmnmjmpocepaaGreatDoor.Cd
end
section
namespace Go.Proofs.YtcnmnmjmpocepaaGreatDoor.Cd
open Go.SL
def LY(K:B6)(cls:List (List Int))(CY:List Value):Prop:=
  CY.length=cls.length/\∀(i:Nat) (f:List Int),cls[i]?=some f->∃fb fn fc,CY[i]?=some (.slice fb fn fc)/\Sl K fb (f.map i64)/\f.length=fn/\fn≤1000
theorem LY.mono{K K':B6}{cls:List (List Int)}{CY:List Value}(h:LY K cls CY)(l:hle K K'):LY K' cls CY:=by
  refine⟨h.1,fun i f hf=> ?_⟩;obtain⟨fb,fn,fc,g1,g2,g3⟩:=h.2 i f hf;exact⟨fb,fn,fc,g1,g2.mono l,g3⟩
theorem LY.snoc{K:B6}{cls:List (List Int)}{CY:List Value}{f:List Int}{fb:Option Addr}{fn fc:Nat}(h:LY K cls CY)(h1:Sl K fb (f.map i64))(h2:f.length=fn)(h3:fn≤1000):LY K (cls++ [f]) (CY++ [.slice fb fn fc]):=by
  refine⟨by simp [h.1],fun i g hg=> ?_⟩;by_cases hi:i<cls.length
  · rw [List.getElem?_append_left hi] at hg
    obtain⟨gb,gn,gc,g1,g2⟩:=h.2 i g hg;exact⟨gb,gn,gc,by rw [List.getElem?_append_left (by rw [h.1];exact hi)];exact g1,g2⟩
  · have TC:i=cls.length:=by
      have:=(List.getElem?_eq_some_iff.1 hg).1;simp at this;omega
    subst TC;simp at hg;subst hg
    exact⟨fb,fn,fc,by rw [<-h.1];simp,h1,h2,h3⟩
theorem LY.nil{K:B6}:LY K [] []:=⟨rfl,fun i f h=>by simp at h⟩
attribute [local irreducible] SL.T C7 Dc C6 Db DS Du
theorem Q9(Dq E9 Lb:Nat)(s:List UInt8)(a:Nat)(cl:Int)(hs:s.length≤9223372036854775807)(ha:a≤s.length):
    SL.T Tryz.prog 147 [ptr Dq,ptr Lb] [Co Dq (.cells ⟨[ptr E9]⟩ 182 (0,0)),Co Lb (.cells ⟨[i64 cl]⟩ 3 (0,0)),GL E9 s a]
      (RQ (ER s 8 cl a) fun l b e o=>∃h base cap,e= .returned (.agg ⟨[.slice base l.length cap]⟩)/\OS h base l.length cap 79 1 (l.map i64)/\b≤s.length/\l.length≤1000/\o= [h,Co Dq (.cells ⟨[ptr E9]⟩ 182 (0,0)),Co Lb (.cells ⟨[i64 cl]⟩ 3 (0,0)),GL E9 s b]):=by
  have g:=Lx E9 s a 8 cl hs ha Ae;cases h1:ER s 8 cl a with
  | error q=>
    rw [h1] at g
    refine Ch Tryz.func147 rfl (Nat.le_of_ble_eq_true rfl) fun F=> ?_
    repeat' (first|apply B4|refine B3 3 BY AD ?_|(refine gk 4 rfl ?_;(refine Ev rfl rfl rfl rfl rfl rfl rfl rfl (g) ?_;rintro _ _ ⟨D6,rfl,rfl⟩;refine .inr ⟨_,rfl,?_⟩;repeat (refine C9 ?_)))|refine Cn (fun β=> ?_)|refine B0 ?_|apply B5)
    exact DB ⟨_,rfl,rfl⟩
  | ok r=>
    obtain⟨l,b⟩:=r;rw [h1] at g
    refine Ch Tryz.func147 rfl (Nat.le_of_ble_eq_true rfl) fun F=> ?_
    repeat' (first|apply B4|refine B3 3 BY AD ?_|(refine gk 4 rfl ?_;(refine B9 rfl rfl rfl rfl rfl rfl rfl rfl (g) ?_;rintro _ _ ⟨h,base,cap,rfl,os,hb,hl,rfl⟩;refine⟨_,_,rfl,rfl,?_⟩))|refine B3 5 BY Ar ?_|refine Cn (fun β=> ?_)|refine Ck ?_|refine B0 ?_|apply B5|refine B8 ?_|apply Cb)
    exact G5 [h,Co Dq (.cells ⟨[ptr E9]⟩ 182 (0,0)),Co Lb (.cells ⟨[i64 cl]⟩ 3 (0,0)),GL E9 s b] (Ce (Cv rfl rfl rfl rfl)) ⟨h,base,cap,rfl,os,hb,hl,rfl⟩
structure SC where
  j:Nat
  a:Nat
  h:B6
  b:Option Addr
  c:Nat
  K:B6
  cls:List (List Int)
  CY:List Value
theorem RB(n:Nat)(Dq E9 Lb:Nat)(s:List UInt8)(a:Nat)(cl:Int)(hs:s.length≤9223372036854775807)(ha:a≤s.length)(hn:n≤1000):
    SL.T Tryz.prog 146 [i64 (n:Int),.func (.func 147) #[] #[ptr Dq,ptr Lb]] [Co Dq (.cells ⟨[ptr E9]⟩ 182 (0,0)),Co Lb (.cells ⟨[i64 cl]⟩ 3 (0,0)),GL E9 s a]
      (RQ (rep (ER s 8 cl) n a) fun cls b e o=>∃K h base cap CY,e= .returned (.slice base n cap)/\OS h base n cap 76 1 CY/\LY K cls CY/\b≤s.length/\cls.length=n/\o= [K,h,Co Dq (.cells ⟨[ptr E9]⟩ 182 (0,0)),Co Lb (.cells ⟨[i64 cl]⟩ 3 (0,0)),GL E9 s b]):=by
  refine Ch Tryz.func146 rfl (Nat.le_of_ble_eq_true rfl) fun F=> ?_
  refine DY ?_;refine DY ?_
  repeat' (first|apply B4|refine B3 0 BY Af ?_|refine B0 ?_|apply B5|refine B8 ?_|refine Cf ?_)
  refine Pw (fun t:SC=> [(1,.func (.func 147) #[] #[ptr Dq,ptr Lb]),(4,.slice t.b t.j t.c),(5,i64 (n:Int)),(6,i64 (t.j:Int))])
    (fun t=> [t.K,t.h,Co Dq (.cells ⟨[ptr E9]⟩ 182 (0,0)),Co Lb (.cells ⟨[i64 cl]⟩ 3 (0,0)),GL E9 s t.a])
    (fun t=>t.j≤n/\t.a≤s.length/\rep (ER s 8 cl) t.j a= .ok (t.cls,t.a)/\OS t.h t.b t.j t.c 76 1 t.CY/\LY t.K t.cls t.CY)
    (fun t=>n - t.j) ⟨0,a,emp,none,0,emp,[],[]⟩ (by repeat first|exact Sub.nil _|refine Sub.cons rfl ?_) ⟨Nat.zero_le _,ha,rfl,OS.nil,LY.nil⟩ ?_
  rintro⟨j,x,h,b,c,K,cls,CY⟩ ⟨hj,hx,hr,os,hP⟩;dsimp only at hj hx hr os hP ⊢
  by_cases Gs:j<n
  · have hk:=Q9 Dq E9 Lb s x cl hs hx;cases h1:ER s 8 cl x with
    | error q=>
      rw [h1] at hk
      repeat' (first|apply B4|refine B3 0 BY Am ?_|refine Cs 2 BY Aj Ab ?_|(refine gk 4 rfl ?_;(refine Ev rfl rfl rfl rfl rfl rfl rfl rfl (hk) ?_;rintro _ _ ⟨D6,rfl,rfl⟩;refine .inr ⟨_,rfl,?_⟩;repeat (first|refine C9 ?_|refine JY ?_)))|refine B0 ?_|apply B5|refine Cl ?_|refine Cf ?_|apply Cc)
      rw [Qx Gs hr h1];exact DB ⟨_,rfl,rfl⟩
    | ok r=>
      obtain⟨z,y⟩:=r;rw [h1] at hk
      repeat' (first|apply B4|refine B3 0 BY Af ?_|refine B3 1 BY Ap ?_|refine Cs 2 BY Aj Ab ?_|(refine gk 4 rfl ?_;(refine B9 rfl rfl rfl rfl rfl rfl rfl rfl (hk) ?_;rintro _ _ ⟨hz,bz,cz,rfl,osz,hy,hl,rfl⟩;refine⟨_,_,rfl,rfl,?_⟩))|refine gk 4 rfl (Ff rfl rfl rfl rfl rfl rfl rfl rfl rfl Ad As Ae As Ab Ab (fun h' b' c' HT TE=> ?_))|refine Cm (fun b=> ?_)|refine B0 ?_|apply B5|refine B8 ?_|refine Cl ?_|refine Cf ?_|apply Cc)
      intro hd;have dj:DM hz K:=aB hd;refine⟨rfl,⟨j+1,y,h',b',c',join hz K,cls++ [z],CY++ [.slice bz z.length cz]⟩,Wo (h:=hz) (k:=K) (by repeat first|exact Sub.nil _|refine Sub.cons rfl ?_),⟨by dsimp only;omega,hy,by simp only [rep,hr,h1],HT,?_⟩,by dsimp only;omega⟩;exact(hP.mono (Gh dj)).snoc (osz.sl.mono Hy) rfl hl
  · obtain rfl:j=n:=by omega
    repeat' (first|apply B4|refine B3 0 BY Af ?_|refine CE 2 BY Aj Ab ?_|refine B0 ?_|apply B5|refine B8 ?_|refine Cg ?_|apply Cb|refine CC ?_)
    rw [hr];exact G5 [K,h,Co Dq (.cells ⟨[ptr E9]⟩ 182 (0,0)),Co Lb (.cells ⟨[i64 cl]⟩ 3 (0,0)),GL E9 s x] (Ce (B7 rfl)) ⟨K,h,b,c,CY,rfl,os,hP,hx,Nc hr,rfl⟩
end Go.Proofs.YtcnmnmjmpocepaaGreatDoor.Cd
end
section
namespace Go.Proofs.YtcnmnmjmpocepaaGreatDoor.Cd
open Go.SL
def VJ(K:B6)(ms:List Me)(CY:List Value):Prop:=
  CY.length=ms.length*4/\∀(i:Nat) (m:Me),ms[i]?=some m->∃pb pc cb cc,CY[i*4]?=some (.slice pb m.params.length pc)/\CY[i*4+1]?=some (i64 m.lo)/\CY[i*4+2]?=some (i64 m.st)/\CY[i*4+3]?=some (.slice cb m.code.length cc)/\
    Sl K pb (m.params.map i64)/\m.params.length≤1000/\Sl K cb (Cp m.code)/\m.code.length≤cc/\m.code.length≤1000
theorem VJ.mono{K K':B6}{ms:List Me}{CY:List Value}(h:VJ K ms CY)(l:hle K K'):VJ K' ms CY:=by
  refine⟨h.1,fun i m hm=> ?_⟩;obtain⟨pb,pc,cb,cc,g1,g2,g3,g4,g5,g6,g7,g8⟩:=h.2 i m hm;exact⟨pb,pc,cb,cc,g1,g2,g3,g4,g5.mono l,g6,g7.mono l,g8⟩
theorem VJ.nil{K:B6}:VJ K [] []:=⟨rfl,fun i f h=>by simp at h⟩
theorem Zv{CY:List Value}{v0 v1 v2 v3:Value}{n:Nat}(h:CY.length=n*4):(CY++ [v0,v1,v2,v3])[n*4]?=some v0/\(CY++ [v0,v1,v2,v3])[n*4+1]?=some v1/\(CY++ [v0,v1,v2,v3])[n*4+2]?=some v2/\(CY++ [v0,v1,v2,v3])[n*4+3]?=some v3:=by
  rw [<-h];refine⟨by simp,?_,?_,?_⟩ <;>(rw [List.getElem?_append_right Ab];simp)
theorem VJ.snoc{K:B6}{ms:List Me}{CY:List Value}{m:Me}{pb cb:Option Addr}{pc cc:Nat}(h:VJ K ms CY)(h1:Sl K pb (m.params.map i64))(h2:m.params.length≤1000)(h3:Sl K cb (Cp m.code))(h4:m.code.length≤cc)(h5:m.code.length≤1000):
    VJ K (ms++ [m]) (CY++ [.slice pb m.params.length pc,i64 m.lo,i64 m.st,.slice cb m.code.length cc]):=by
  obtain⟨a1,a2⟩:=h;refine⟨by simp [a1];omega,fun i m' Yw=> ?_⟩;by_cases hi:i<ms.length
  · rw [List.getElem?_append_left hi] at Yw
    obtain⟨lx,lv,mF,iY,g1,g2,g3,g4,g5⟩:=a2 i m' Yw;refine⟨lx,lv,mF,iY,?_,?_,?_,?_,g5⟩
    all_goals (rw [List.getElem?_append_left Ab];assumption)
  · have TC:i=ms.length:=by
      have:=(List.getElem?_eq_some_iff.1 Yw).1;simp at this;omega
    subst TC;simp at Yw;subst Yw
    obtain⟨q0,q1,q2,q3⟩:=Zv (v0:= .slice pb m.params.length pc) (v1:=i64 m.lo) (v2:=i64 m.st) (v3:= .slice cb m.code.length cc) a1;exact⟨pb,pc,cb,cc,q0,q1,q2,q3,h1,h2,h3,h4,h5⟩
def PQ(s:List UInt8)(cl:Int):Nat->Rd (List Me)
  |0=>fun a=> .ok ([],a)
  | k+1=>fun a=>match PQ s cl k a with
    | .ok (l,a1)=>match FW s (if k=0 then 0 else 16) cl a1 with| .ok (x,a2)=> .ok (l++ [x],a2)| .error e=> .error e
    | .error e=> .error e
theorem ZW{s:List UInt8}{cl:Int}{a b q:Nat}{l:List Me}{j n:Nat}:j<n->PQ s cl j a= .ok (l,b)->FW s (if j=0 then 0 else 16) cl b= .error q->PQ s cl n a= .error q:=by
  induction n with
  |zero=>intro h;omega
  | succ n ih=>
    intro h h1 h2;by_cases e:j=n
    · subst e;simp only [PQ,h1,h2]
    · simp only [PQ,ih Ab h1 h2]
theorem Vj{s:List UInt8}{cl:Int}{a:Nat}:∀ {n b:Nat} {l:List Me},PQ s cl n a= .ok (l,b)->l.length=n:=by
  intro n;induction n with
  |zero=>intro b l h;simp only [PQ] at h;cases h;rfl
  | succ n ih=>
    intro b l h;simp only [PQ] at h
    split at h
    · rename_i h1
      split at h
      · cases h
        simp [ih h1]
      · cases h
    · cases h
attribute [local irreducible] SL.T C7 Dc C6 Db DS Du
theorem Pc(Dq E7 E9 Lb:Nat)(s:List UInt8)(a:Nat)(most cl:Int)(hs:s.length≤9223372036854775807)(ha:a≤s.length)(hm:most≤1000):
    SL.T Tryz.prog 150 [ptr Dq,ptr E7,ptr Lb] [Co Dq (.cells ⟨[ptr E9]⟩ 182 (0,0)),Co E7 (.cells ⟨[i64 most]⟩ 3 (0,0)),Co Lb (.cells ⟨[i64 cl]⟩ 3 (0,0)),GL E9 s a]
      (RQ (FW s most cl a) fun m b e o=>∃hp pb pc hc cb cc,e= .returned (.agg ⟨[.slice pb m.params.length pc,i64 m.lo,i64 m.st,.slice cb m.code.length cc]⟩)/\OS hp pb m.params.length pc 79 1 (m.params.map i64)/\OS hc cb m.code.length cc 24 3 (Cp m.code)/\m.params.length≤1000/\m.code.length≤1000/\b≤s.length/\
        o= [hp,hc,Co Dq (.cells ⟨[ptr E9]⟩ 182 (0,0)),Co E7 (.cells ⟨[i64 16]⟩ 3 (0,0)),Co Lb (.cells ⟨[i64 cl]⟩ 3 (0,0)),GL E9 s b]):=by
  have g:=Pb E9 s a most cl hs ha hm;cases h1:FW s most cl a with
  | error q=>
    rw [h1] at g
    refine Ch Tryz.func150 rfl (Nat.le_of_ble_eq_true rfl) fun F=> ?_
    repeat' (first|apply B4|refine B3 3 BY AD ?_|(refine gk 4 rfl ?_;(refine Ev rfl rfl rfl rfl rfl rfl rfl rfl (g) ?_;rintro _ _ ⟨D6,rfl,rfl⟩;refine .inr ⟨_,rfl,?_⟩;repeat (refine C9 ?_)))|refine Cn (fun β=> ?_)|refine B0 ?_|apply B5)
    exact DB ⟨_,rfl,rfl⟩
  | ok r=>
    obtain⟨m,b⟩:=r;rw [h1] at g
    refine Ch Tryz.func150 rfl (Nat.le_of_ble_eq_true rfl) fun F=> ?_
    repeat' (first|apply B4|refine B3 3 BY AR ?_|(refine gk 4 rfl ?_;(refine B9 rfl rfl rfl rfl rfl rfl rfl rfl (g) ?_;rintro _ _ ⟨hp,pb,pc,hc,cb,cc,rfl,osp,osc,Zo,Nn,hb,rfl⟩;refine⟨_,_,rfl,rfl,?_⟩))|refine Cn (fun β=> ?_)|refine Ck ?_|refine B0 ?_|apply B5|refine B8 ?_|apply Cb)
    exact G5 [hp,hc,Co Dq (.cells ⟨[ptr E9]⟩ 182 (0,0)),Co E7 (.cells ⟨[i64 16]⟩ 3 (0,0)),Co Lb (.cells ⟨[i64 cl]⟩ 3 (0,0)),GL E9 s b] (Ce (Cv rfl rfl rfl rfl)) ⟨hp,pb,pc,hc,cb,cc,rfl,osp,osc,Zo,Nn,hb,rfl⟩
structure SM where
  j:Nat
  a:Nat
  h:B6
  b:Option Addr
  c:Nat
  K:B6
  ms:List Me
  CY:List Value
  mo:Int
theorem Ry(n:Nat)(Dq E7 E9 Lb:Nat)(s:List UInt8)(a:Nat)(cl:Int)(hs:s.length≤9223372036854775807)(ha:a≤s.length)(hn:n≤1000):
    SL.T Tryz.prog 149 [i64 (n:Int),.func (.func 150) #[] #[ptr Dq,ptr E7,ptr Lb]] [Co Dq (.cells ⟨[ptr E9]⟩ 182 (0,0)),Co E7 (.cells ⟨[i64 0]⟩ 3 (0,0)),Co Lb (.cells ⟨[i64 cl]⟩ 3 (0,0)),GL E9 s a]
      (RQ (PQ s cl n a) fun ms b e o=>∃K h base cap CY,e= .returned (.slice base n cap)/\OS h base n cap 66 4 CY/\VJ K ms CY/\b≤s.length/\ms.length=n/\o= [K,h,Co Dq (.cells ⟨[ptr E9]⟩ 182 (0,0)),Co Lb (.cells ⟨[i64 cl]⟩ 3 (0,0)),GL E9 s b]):=by
  refine Ch Tryz.func149 rfl (Nat.le_of_ble_eq_true rfl) fun F=> ?_
  refine DY ?_;refine DY ?_
  repeat' (first|apply B4|refine B3 0 BY Af ?_|refine B0 ?_|apply B5|refine B8 ?_|refine Cf ?_)
  refine Pw (fun t:SM=> [(1,.func (.func 150) #[] #[ptr Dq,ptr E7,ptr Lb]),(4,.slice t.b t.j t.c),(5,i64 (n:Int)),(6,i64 (t.j:Int))])
    (fun t=> [t.K,t.h,Co Dq (.cells ⟨[ptr E9]⟩ 182 (0,0)),Co E7 (.cells ⟨[i64 t.mo]⟩ 3 (0,0)),Co Lb (.cells ⟨[i64 cl]⟩ 3 (0,0)),GL E9 s t.a])
    (fun t=>t.j≤n/\t.a≤s.length/\PQ s cl t.j a= .ok (t.ms,t.a)/\OS t.h t.b t.j t.c 66 4 t.CY/\VJ t.K t.ms t.CY/\t.mo=if t.j=0 then 0 else 16)
    (fun t=>n - t.j) ⟨0,a,emp,none,0,emp,[],[],0⟩ (by repeat first|exact Sub.nil _|refine Sub.cons rfl ?_) ⟨Nat.zero_le _,ha,rfl,OS.nil,VJ.nil,rfl⟩ ?_
  rintro⟨j,x,h,b,c,K,ms,CY,mo⟩ ⟨hj,hx,hr,os,hP,hmo⟩;dsimp only at hj hx hr os hP hmo ⊢
  by_cases Gs:j<n
  · have hk:=Pc Dq E7 E9 Lb s x mo cl hs hx (by rw [hmo];split <;>decide);cases h1:FW s (if j=0 then 0 else 16) cl x with
    | error q=>
      rw [hmo,h1,<-hmo] at hk
      repeat' (first|apply B4|refine B3 0 BY Am ?_|refine Cs 2 BY Aj Ab ?_|(refine gk 4 rfl ?_;(refine Ev rfl rfl rfl rfl rfl rfl rfl rfl (hk) ?_;rintro _ _ ⟨D6,rfl,rfl⟩;refine .inr ⟨_,rfl,?_⟩;repeat (first|refine C9 ?_|refine JY ?_)))|refine B0 ?_|apply B5|refine Cl ?_|refine Cf ?_|apply Cc)
      rw [ZW Gs hr h1];exact DB ⟨_,rfl,rfl⟩
    | ok r=>
      obtain⟨m,y⟩:=r;rw [hmo,h1,<-hmo] at hk
      repeat' (first|apply B4|refine B3 0 BY Af ?_|refine B3 1 BY Ap ?_|refine Cs 2 BY Aj Ab ?_|(refine gk 4 rfl ?_;(refine B9 rfl rfl rfl rfl rfl rfl rfl rfl (hk) ?_;rintro _ _ ⟨hp,pb,pc,hc,cb,cc,rfl,osp,osc,Zo,Nn,hy,rfl⟩;refine⟨_,_,rfl,rfl,?_⟩))|refine gk 4 rfl (Ff rfl rfl rfl rfl rfl rfl rfl rfl rfl Ad As Ae As Ab Ab (fun h' b' c' HT TE=> ?_))|refine Cm (fun b=> ?_)|refine B0 ?_|apply B5|refine B8 ?_|refine Cl ?_|refine Cf ?_|apply Cc)
      intro hd;obtain⟨d1,d2,d3⟩:=fC (h:=hp) (g:=hc) (k:=K) hd;refine⟨rfl,⟨j+1,y,h',b',c',join hp (join hc K),ms++ [m],_,16⟩,T8 (h:=hp) (g:=hc) (k:=K) (by repeat first|exact Sub.nil _|refine Sub.cons rfl ?_),⟨by dsimp only;omega,hy,by simp only [PQ,hr,h1],HT,?_,by dsimp only;rw [if_neg Ab]⟩,by dsimp only;omega⟩;have l1:hle (join hc K) (join hp (join hc K)):=Gh (Hs d1 d2);exact(hP.mono ((Gh d3).trans l1)).snoc (osp.sl.mono Hy) Zo (osc.sl.mono (Hy.trans l1)) osc.hle Nn
  · obtain rfl:j=n:=by omega
    repeat' (first|apply B4|refine B3 0 BY Af ?_|refine CE 2 BY Aj Ab ?_|refine B0 ?_|apply B5|refine B8 ?_|refine Cg ?_|apply Cb|refine CC ?_)
    rw [hr];exact G5 [K,h,Co Dq (.cells ⟨[ptr E9]⟩ 182 (0,0)),Co Lb (.cells ⟨[i64 cl]⟩ 3 (0,0)),GL E9 s x] (Ce (B7 rfl)) ⟨K,h,b,c,CY,rfl,os,hP,hx,Vj hr,rfl⟩
end Go.Proofs.YtcnmnmjmpocepaaGreatDoor.Cd
end
section
namespace Go.Proofs.YtcnmnmjmpocepaaGreatDoor.Cd
open Go.SL
def Mu (s :List UInt8):Except Nat Im:=
  if s.take 3= [68,75,1] then
    match num s 1 (fun z=>wi z 0 16) 3 with
    | .error e=> .error e
    | .ok (n,a1)=>match rep (ER s 8 n) n.toNat a1 with
      | .error e=> .error e
      | .ok (cls,a2)=>match num s 1 (fun z=>wi z 1 32) a2 with
        | .error e=> .error e
        | .ok (k,a3)=>match PQ s n k.toNat a3 with
          | .error e=> .error e
          | .ok (ms,a4)=>if a4=s.length then .ok ⟨cls,ms⟩ else .error a4
  else .error 0
def RI(r:Except Nat Im)(A:Im->Ending->List B6->Prop)(e:Ending)(o:List B6):Prop:=
  match r with| .ok x=>A x e o| .error q=>dF q e o
attribute [local irreducible] SL.T C7 Dc C6 Db DS Du
theorem St (E9:Nat)(s:List UInt8)(hs:s.length≤9223372036854775807):
    SL.T Tryz.prog 96 [ptr E9] [GL E9 s 0]
      (RI (Mu s) fun x e o=>∃K hC K2 hM DF cc mb mc cv mv,e= .returned (.agg ⟨[.slice DF x.cls.length cc,.slice mb x.ms.length mc]⟩)/\OS hC DF x.cls.length cc 76 1 cv/\LY K x.cls cv/\OS hM mb x.ms.length mc 66 4 mv/\VJ K2 x.ms mv/\x.cls.length≤1000/\x.ms.length≤1000/\o= [K,hC,K2,hM]):=by
  unfold Mu;have hny:=N2 E9 s;have WH:=Nk E9 s;have hL:∀ {n:Int} {l:Nat},(l:Int)=n->l=n.toNat:=fun h=>by omega
  by_cases hp:s.take 3= [68,75,1]
  · rw [if_pos hp];have hl3:3≤s.length:=by
      have:=congrArg List.length hp;simp at this;omega
    have g1:=fun b1 b2=>Gi E9 s 3 1 b1 b2 0 16 hs hl3 Ae
    cases h1:num s 1 (fun z=>wi z 0 16) 3 with
    | error q=>
      rw [h1] at g1
      refine Ch Tryz.func96 rfl (Nat.le_of_ble_eq_true rfl) fun F=> ?_
      repeat' (first|apply B4|refine CF (fun β=> ?_)|refine Cn (fun β=> ?_)|refine B0 ?_|apply B5)
      refine C5 Ac Ac rfl ?_
      repeat' (first|refine Cq rfl rfl rfl (EW rfl rfl rfl rfl rfl) ?_|refine Cq rfl rfl rfl (Fh rfl rfl rfl Ab Ab) ?_|refine Ki rfl rfl rfl (FL rfl rfl rfl) (by simpa using hp) ?_|apply B4|refine B3 0 BY AT ?_|refine Cs 2 BY AC Ab ?_|refine B3 3 BY Ah ?_|refine B3 4 BY (Ca rfl rfl rfl rfl rfl (hny 0)) ?_|refine B3 5 BY Al ?_|refine Ck ?_|refine B0 ?_|apply B5)
      refine Cu [.q [0],.an 3,.h false 1,.h true 2,.rv 3,.h true 4] [] Ac Ac Ac Ac ?_
      repeat' (first|refine B3 3 BY AD ?_|refine CQ rfl ?_|refine Dg rfl rfl AK ?_|(refine D0 rfl rfl rfl rfl rfl rfl rfl rfl (CZ 0 16) (by rintro _ _ ⟨b1,b2,rfl,rfl⟩;exact⟨_,rfl⟩) ?_;rintro _ _ ⟨b1,b2,rfl,rfl⟩;refine⟨_,_,rfl,rfl,?_⟩)|(refine Kq rfl rfl rfl rfl rfl rfl rfl rfl (g1 _ _) (fun h=>by cases h) (fun _=> .inl ⟨_,List.Perm.refl _⟩) ?_;rintro _ _ ⟨D6,rfl,rfl⟩;refine .inr ⟨_,_,rfl,rfl,?_⟩;repeat (refine C9 ?_))|apply B5)
      exact DB ⟨_,rfl,rfl⟩
    | ok r1 =>
      obtain⟨n0,x1⟩:=r1;rw [h1] at g1
      obtain⟨hw, -,hx1⟩:=Hb h1;have Yv:0≤n0/\n0≤16:=by unfold wi at hw;simpa using hw
      obtain⟨n,rfl⟩:=Int.eq_ofNat_of_zero_le Yv.1;dsimp only;rw [Int.toNat_natCast];have g2:=fun Dq Lb=>RB n Dq E9 Lb s x1 n hs hx1 Ab
      cases h2:rep (ER s 8 n) n x1 with
      | error q=>
        rw [h2] at g2
        refine Ch Tryz.func96 rfl (Nat.le_of_ble_eq_true rfl) fun F=> ?_
        repeat' (first|apply B4|refine CF (fun β=> ?_)|refine Cn (fun β=> ?_)|refine B0 ?_|apply B5)
        refine C5 Ac Ac rfl ?_
        repeat' (first|refine Cq rfl rfl rfl (EW rfl rfl rfl rfl rfl) ?_|refine Cq rfl rfl rfl (Fh rfl rfl rfl Ab Ab) ?_|refine Ki rfl rfl rfl (FL rfl rfl rfl) (by simpa using hp) ?_|apply B4|refine B3 0 BY AT ?_|refine Cs 2 BY AC Ab ?_|refine B3 3 BY Ah ?_|refine B3 4 BY (Ca rfl rfl rfl rfl rfl (hny 0)) ?_|refine B3 5 BY Al ?_|refine Ck ?_|refine B0 ?_|apply B5)
        refine Cu [.q [0],.an 3,.h false 1,.h true 2,.rv 3,.h true 4] [] Ac Ac Ac Ac ?_
        repeat' (first|apply B4|refine B3 0 BY AV ?_|refine B3 3 BY AD ?_|(refine gk 4 rfl ?_;(refine Ev rfl rfl rfl rfl rfl rfl rfl rfl (g2 _ _) ?_;rintro _ _ ⟨D6,rfl,rfl⟩;refine .inr ⟨_,rfl,?_⟩;repeat (refine C9 ?_)))|refine B0 ?_|refine Cz ?_|refine CQ rfl ?_|refine Dg rfl rfl AK ?_|refine DL rfl rfl rfl (fun β=> ?_)|refine C2 rfl rfl rfl rfl rfl rfl Aa rfl Aa Aa ?_|(refine D0 rfl rfl rfl rfl rfl rfl rfl rfl (CZ 0 16) (by rintro _ _ ⟨b1,b2,rfl,rfl⟩;exact⟨_,rfl⟩) ?_;rintro _ _ ⟨b1,b2,rfl,rfl⟩;refine⟨_,_,rfl,rfl,?_⟩)|(refine Fx rfl rfl rfl rfl rfl rfl rfl rfl (g1 _ _) ?_;rintro _ _ ⟨rfl,rfl⟩;refine⟨_,_,rfl,rfl,?_⟩)|apply B5)
        exact DB ⟨_,rfl,rfl⟩
      | ok r2 =>
        obtain⟨cls,x2⟩:=r2;rw [h2] at g2
        have hx2:x2≤s.length:=XR (fun h1 h2=>PU h1 h2) hx1 h2;have Kl:=Nc h2;dsimp only;have g3:=fun b1 b2=>Gi E9 s x2 1 b1 b2 1 32 hs hx2 Ae
        cases h3:num s 1 (fun z=>wi z 1 32) x2 with
        | error q=>
          rw [h3] at g3
          refine Ch Tryz.func96 rfl (Nat.le_of_ble_eq_true rfl) fun F=> ?_
          repeat' (first|apply B4|refine CF (fun β=> ?_)|refine Cn (fun β=> ?_)|refine B0 ?_|apply B5)
          refine C5 Ac Ac rfl ?_
          repeat' (first|refine Cq rfl rfl rfl (EW rfl rfl rfl rfl rfl) ?_|refine Cq rfl rfl rfl (Fh rfl rfl rfl Ab Ab) ?_|refine Ki rfl rfl rfl (FL rfl rfl rfl) (by simpa using hp) ?_|apply B4|refine B3 0 BY AT ?_|refine Cs 2 BY AC Ab ?_|refine B3 3 BY Ah ?_|refine B3 4 BY (Ca rfl rfl rfl rfl rfl (hny 0)) ?_|refine B3 5 BY Al ?_|refine Ck ?_|refine B0 ?_|apply B5)
          refine Cu [.q [0],.an 3,.h false 1,.h true 2,.rv 3,.h true 4] [] Ac Ac Ac Ac ?_
          repeat' (first|apply B4|refine B3 0 BY AV ?_|refine B3 3 BY Ah ?_|(refine gk 4 rfl ?_;(refine B9 rfl rfl rfl rfl rfl rfl rfl rfl (g2 _ _) ?_;rintro _ _ ⟨K,hC,DF,cc,cv,rfl,FK,hP,cR,Nn,rfl⟩;refine⟨_,_,rfl,rfl,?_⟩))|refine Cn (fun β=> ?_)|refine Ck ?_|refine B0 ?_|refine Cz ?_|refine CQ rfl ?_|refine Dg rfl rfl AK ?_|refine DL rfl rfl rfl (fun β=> ?_)|refine C2 rfl rfl rfl rfl rfl rfl Aa rfl Aa Aa ?_|(refine D0 rfl rfl rfl rfl rfl rfl rfl rfl (CZ 0 16) (by rintro _ _ ⟨b1,b2,rfl,rfl⟩;exact⟨_,rfl⟩) ?_;rintro _ _ ⟨b1,b2,rfl,rfl⟩;refine⟨_,_,rfl,rfl,?_⟩)|(refine Fx rfl rfl rfl rfl rfl rfl rfl rfl (g1 _ _) ?_;rintro _ _ ⟨rfl,rfl⟩;refine⟨_,_,rfl,rfl,?_⟩)|apply B5)
          refine Cu [.q [0],.f [3],.h false 1,.h true 2,.h true 4,.q [5],.h true 6] [] Ac Ac Ac Ac ?_
          repeat' (first|refine B3 0 BY AV ?_|refine B3 3 BY AD ?_|refine CQ rfl ?_|refine FD rfl ?_|(refine D0 rfl rfl rfl rfl rfl rfl rfl rfl (CZ 1 32) (by rintro _ _ ⟨b3,b4,rfl,rfl⟩;exact⟨_,rfl⟩) ?_;rintro _ _ ⟨b3,b4,rfl,rfl⟩;refine⟨_,_,rfl,rfl,?_⟩)|(refine Kq rfl rfl rfl rfl rfl rfl rfl rfl (g3 _ _) (fun h=>by cases h) (fun _=> .inl ⟨_,List.Perm.refl _⟩) ?_;rintro _ _ ⟨D6,rfl,rfl⟩;refine .inr ⟨_,_,rfl,rfl,?_⟩;repeat (refine C9 ?_))|apply B5)
          exact DB ⟨_,rfl,rfl⟩
        | ok r3=>
          obtain⟨k0,x3⟩:=r3;rw [h3] at g3
          obtain⟨hw, -,hx3⟩:=Hb h3;have br:1≤k0/\k0≤32:=by unfold wi at hw;simpa using hw
          obtain⟨k,rfl⟩:=Int.eq_ofNat_of_zero_le (show 0≤k0 by omega);dsimp only;rw [Int.toNat_natCast];have g4:=fun Dq E7 Lb=>Ry k Dq E7 E9 Lb s x3 n hs hx3 Ab
          cases h4:PQ s n k x3 with
          | error q=>
            rw [h4] at g4
            refine Ch Tryz.func96 rfl (Nat.le_of_ble_eq_true rfl) fun F=> ?_
            repeat' (first|apply B4|refine CF (fun β=> ?_)|refine Cn (fun β=> ?_)|refine B0 ?_|apply B5)
            refine C5 Ac Ac rfl ?_
            repeat' (first|refine Cq rfl rfl rfl (EW rfl rfl rfl rfl rfl) ?_|refine Cq rfl rfl rfl (Fh rfl rfl rfl Ab Ab) ?_|refine Ki rfl rfl rfl (FL rfl rfl rfl) (by simpa using hp) ?_|apply B4|refine B3 0 BY AT ?_|refine Cs 2 BY AC Ab ?_|refine B3 3 BY Ah ?_|refine B3 4 BY (Ca rfl rfl rfl rfl rfl (hny 0)) ?_|refine B3 5 BY Al ?_|refine Ck ?_|refine B0 ?_|apply B5)
            refine Cu [.q [0],.an 3,.h false 1,.h true 2,.rv 3,.h true 4] [] Ac Ac Ac Ac ?_
            repeat' (first|apply B4|refine B3 0 BY AV ?_|refine B3 3 BY Ah ?_|(refine gk 4 rfl ?_;(refine B9 rfl rfl rfl rfl rfl rfl rfl rfl (g2 _ _) ?_;rintro _ _ ⟨K,hC,DF,cc,cv,rfl,FK,hP,cR,Nn,rfl⟩;refine⟨_,_,rfl,rfl,?_⟩))|refine Cn (fun β=> ?_)|refine Ck ?_|refine B0 ?_|refine Cz ?_|refine CQ rfl ?_|refine Dg rfl rfl AK ?_|refine DL rfl rfl rfl (fun β=> ?_)|refine C2 rfl rfl rfl rfl rfl rfl Aa rfl Aa Aa ?_|(refine D0 rfl rfl rfl rfl rfl rfl rfl rfl (CZ 0 16) (by rintro _ _ ⟨b1,b2,rfl,rfl⟩;exact⟨_,rfl⟩) ?_;rintro _ _ ⟨b1,b2,rfl,rfl⟩;refine⟨_,_,rfl,rfl,?_⟩)|(refine Fx rfl rfl rfl rfl rfl rfl rfl rfl (g1 _ _) ?_;rintro _ _ ⟨rfl,rfl⟩;refine⟨_,_,rfl,rfl,?_⟩)|apply B5)
            refine Cu [.q [0],.f [3],.h false 1,.h true 2,.h true 4,.q [5],.h true 6] [] Ac Ac Ac Ac ?_
            repeat' (first|refine B3 0 BY AV ?_|refine B3 3 BY AD ?_|refine CQ rfl ?_|refine FD rfl ?_|(refine D0 rfl rfl rfl rfl rfl rfl rfl rfl (CZ 1 32) (by rintro _ _ ⟨b3,b4,rfl,rfl⟩;exact⟨_,rfl⟩) ?_;rintro _ _ ⟨b3,b4,rfl,rfl⟩;refine⟨_,_,rfl,rfl,?_⟩)|(refine Fx rfl rfl rfl rfl rfl rfl rfl rfl (g3 _ _) ?_;rintro _ _ ⟨rfl,rfl⟩;refine⟨_,_,rfl,rfl,?_⟩)|(refine Kq rfl rfl rfl rfl rfl rfl rfl rfl (g4 _ _ _) (fun h=>by cases h) (fun _=> .inl ⟨_,List.Perm.refl _⟩) ?_;rintro _ _ ⟨D6,rfl,rfl⟩;refine .inr ⟨_,_,rfl,rfl,?_⟩;repeat (refine C9 ?_))|apply B5)
            exact DB ⟨_,rfl,rfl⟩
          | ok r4=>
            obtain⟨ms,x4⟩:=r4;rw [h4] at g4
            have SF:=Vj h4;dsimp only;subst Kl SF;by_cases h5:x4=s.length
            · rw [if_pos h5];refine Ch Tryz.func96 rfl (Nat.le_of_ble_eq_true rfl) fun F=> ?_
              repeat' (first|apply B4|refine CF (fun β=> ?_)|refine Cn (fun β=> ?_)|refine B0 ?_|apply B5)
              refine C5 Ac Ac rfl ?_
              repeat' (first|refine Cq rfl rfl rfl (EW rfl rfl rfl rfl rfl) ?_|refine Cq rfl rfl rfl (Fh rfl rfl rfl Ab Ab) ?_|refine Ki rfl rfl rfl (FL rfl rfl rfl) (by simpa using hp) ?_|apply B4|refine B3 0 BY AT ?_|refine Cs 2 BY AC Ab ?_|refine B3 3 BY Ah ?_|refine B3 4 BY (Ca rfl rfl rfl rfl rfl (hny 0)) ?_|refine B3 5 BY Al ?_|refine Ck ?_|refine B0 ?_|apply B5)
              refine Cu [.q [0],.an 3,.h false 1,.h true 2,.rv 3,.h true 4] [] Ac Ac Ac Ac ?_
              repeat' (first|apply B4|refine B3 0 BY AV ?_|refine B3 3 BY Ah ?_|(refine gk 4 rfl ?_;(refine B9 rfl rfl rfl rfl rfl rfl rfl rfl (g2 _ _) ?_;rintro _ _ ⟨K,hC,DF,cc,cv,rfl,FK,hP,cR,Nn,rfl⟩;refine⟨_,_,rfl,rfl,?_⟩))|refine Cn (fun β=> ?_)|refine Ck ?_|refine B0 ?_|refine Cz ?_|refine CQ rfl ?_|refine Dg rfl rfl AK ?_|refine DL rfl rfl rfl (fun β=> ?_)|refine C2 rfl rfl rfl rfl rfl rfl Aa rfl Aa Aa ?_|(refine D0 rfl rfl rfl rfl rfl rfl rfl rfl (CZ 0 16) (by rintro _ _ ⟨b1,b2,rfl,rfl⟩;exact⟨_,rfl⟩) ?_;rintro _ _ ⟨b1,b2,rfl,rfl⟩;refine⟨_,_,rfl,rfl,?_⟩)|(refine Fx rfl rfl rfl rfl rfl rfl rfl rfl (g1 _ _) ?_;rintro _ _ ⟨rfl,rfl⟩;refine⟨_,_,rfl,rfl,?_⟩)|apply B5)
              refine Cu [.q [0],.f [3],.h false 1,.h true 2,.h true 4,.q [5],.h true 6] [] Ac Ac Ac Ac ?_
              repeat' (first|apply B4|refine B3 0 BY AV ?_|refine B3 3 BY Ah ?_|refine Cz ?_|refine CQ rfl ?_|refine FD rfl ?_|refine C2 rfl rfl rfl rfl rfl rfl Aa rfl Aa Aa ?_|(refine D0 rfl rfl rfl rfl rfl rfl rfl rfl (CZ 1 32) (by rintro _ _ ⟨b3,b4,rfl,rfl⟩;exact⟨_,rfl⟩) ?_;rintro _ _ ⟨b3,b4,rfl,rfl⟩;refine⟨_,_,rfl,rfl,?_⟩)|(refine Fx rfl rfl rfl rfl rfl rfl rfl rfl (g3 _ _) ?_;rintro _ _ ⟨rfl,rfl⟩;refine⟨_,_,rfl,rfl,?_⟩)|(refine Fx rfl rfl rfl rfl rfl rfl rfl rfl (g4 _ _ _) ?_;rintro _ _ ⟨K2,hM,mb,mc,mv,rfl,Xc,hPM,hy4,ka,rfl⟩;refine⟨_,_,rfl,rfl,?_⟩)|apply B5)
              refine C5 Ac Ac rfl ?_
              repeat' (first|refine Cq rfl rfl rfl (EW rfl rfl rfl rfl rfl) ?_|apply B4|refine Cs 2 BY Ao Ab ?_|refine B3 3 BY AF ?_|refine B3 4 BY (Ca rfl rfl rfl rfl rfl (hny x4)) ?_|refine B3 5 BY Al ?_|refine Ck ?_|refine B0 ?_|apply B5|refine B8 ?_|apply Cb)
              exact G5 [K,hC,K2,hM] (Ce (Cv rfl rfl rfl rfl)) ⟨K,hC,K2,hM,DF,cc,mb,mc,cv,mv,rfl,FK,hP,Xc,hPM,by dsimp only;omega,by dsimp only;omega,rfl⟩
            · rw [if_neg h5];refine Ch Tryz.func96 rfl (Nat.le_of_ble_eq_true rfl) fun F=> ?_
              repeat' (first|apply B4|refine CF (fun β=> ?_)|refine Cn (fun β=> ?_)|refine B0 ?_|apply B5)
              refine C5 Ac Ac rfl ?_
              repeat' (first|refine Cq rfl rfl rfl (EW rfl rfl rfl rfl rfl) ?_|refine Cq rfl rfl rfl (Fh rfl rfl rfl Ab Ab) ?_|refine Ki rfl rfl rfl (FL rfl rfl rfl) (by simpa using hp) ?_|apply B4|refine B3 0 BY AT ?_|refine Cs 2 BY AC Ab ?_|refine B3 3 BY Ah ?_|refine B3 4 BY (Ca rfl rfl rfl rfl rfl (hny 0)) ?_|refine B3 5 BY Al ?_|refine Ck ?_|refine B0 ?_|apply B5)
              refine Cu [.q [0],.an 3,.h false 1,.h true 2,.rv 3,.h true 4] [] Ac Ac Ac Ac ?_
              repeat' (first|apply B4|refine B3 0 BY AV ?_|refine B3 3 BY Ah ?_|(refine gk 4 rfl ?_;(refine B9 rfl rfl rfl rfl rfl rfl rfl rfl (g2 _ _) ?_;rintro _ _ ⟨K,hC,DF,cc,cv,rfl,FK,hP,cR,Nn,rfl⟩;refine⟨_,_,rfl,rfl,?_⟩))|refine Cn (fun β=> ?_)|refine Ck ?_|refine B0 ?_|refine Cz ?_|refine CQ rfl ?_|refine Dg rfl rfl AK ?_|refine DL rfl rfl rfl (fun β=> ?_)|refine C2 rfl rfl rfl rfl rfl rfl Aa rfl Aa Aa ?_|(refine D0 rfl rfl rfl rfl rfl rfl rfl rfl (CZ 0 16) (by rintro _ _ ⟨b1,b2,rfl,rfl⟩;exact⟨_,rfl⟩) ?_;rintro _ _ ⟨b1,b2,rfl,rfl⟩;refine⟨_,_,rfl,rfl,?_⟩)|(refine Fx rfl rfl rfl rfl rfl rfl rfl rfl (g1 _ _) ?_;rintro _ _ ⟨rfl,rfl⟩;refine⟨_,_,rfl,rfl,?_⟩)|apply B5)
              refine Cu [.q [0],.f [3],.h false 1,.h true 2,.h true 4,.q [5],.h true 6] [] Ac Ac Ac Ac ?_
              repeat' (first|apply B4|refine B3 0 BY AV ?_|refine B3 3 BY Ah ?_|refine Cz ?_|refine CQ rfl ?_|refine FD rfl ?_|refine C2 rfl rfl rfl rfl rfl rfl Aa rfl Aa Aa ?_|(refine D0 rfl rfl rfl rfl rfl rfl rfl rfl (CZ 1 32) (by rintro _ _ ⟨b3,b4,rfl,rfl⟩;exact⟨_,rfl⟩) ?_;rintro _ _ ⟨b3,b4,rfl,rfl⟩;refine⟨_,_,rfl,rfl,?_⟩)|(refine Fx rfl rfl rfl rfl rfl rfl rfl rfl (g3 _ _) ?_;rintro _ _ ⟨rfl,rfl⟩;refine⟨_,_,rfl,rfl,?_⟩)|(refine Fx rfl rfl rfl rfl rfl rfl rfl rfl (g4 _ _ _) ?_;rintro _ _ ⟨K2,hM,mb,mc,mv,rfl,Xc,hPM,hy4,ka,rfl⟩;refine⟨_,_,rfl,rfl,?_⟩)|apply B5)
              refine Cu [.q [0,1,2,3,4,5,6,7,8,9,10],.h true 11] [] Ac Ac Ac Ac ?_
              repeat' (first|refine Cq rfl rfl rfl (EW rfl rfl rfl rfl rfl) ?_|refine CE 2 BY Ao Ab ?_|refine B3 3 BY Ah ?_|refine B3 5 BY Al ?_|refine CQ rfl ?_|(refine Kq rfl rfl rfl rfl rfl rfl rfl rfl (WH x4) (fun h=>by cases h) (fun _=> .inl ⟨_,List.Perm.refl _⟩) ?_;rintro _ _ ⟨D6,rfl,rfl⟩;refine .inr ⟨_,_,rfl,rfl,?_⟩;repeat (refine C9 ?_))|apply B5)
              exact DB ⟨_,rfl,rfl⟩
  · rw [if_neg hp];by_cases hl3:3≤s.length
    · refine Ch Tryz.func96 rfl (Nat.le_of_ble_eq_true rfl) fun F=> ?_
      repeat' (first|apply B4|refine CF (fun β=> ?_)|refine Cn (fun β=> ?_)|refine B0 ?_|apply B5)
      refine Cu [.q [0,1,2,3,4,5,6,7,8,9,10,11,12,13,14],.h true 15] [] Ac Ac Ac Ac ?_
      repeat' (first|refine Cq rfl rfl rfl (EW rfl rfl rfl rfl rfl) ?_|refine Cq rfl rfl rfl (Fh rfl rfl rfl Ab Ab) ?_|refine XH rfl rfl rfl (FL rfl rfl rfl) (by simpa using hp) ?_|refine B3 0 BY AT ?_|refine Cs 2 BY AC Ab ?_|refine B3 3 BY Ah ?_|refine B3 5 BY Al ?_|refine CQ rfl ?_|(refine Kq rfl rfl rfl rfl rfl rfl rfl rfl (WH 0) (fun h=>by cases h) (fun _=> .inl ⟨_,List.Perm.refl _⟩) ?_;rintro _ _ ⟨D6,rfl,rfl⟩;refine .inr ⟨_,_,rfl,rfl,?_⟩;repeat (refine C9 ?_))|apply B5)
      exact DB ⟨_,rfl,rfl⟩
    · refine Ch Tryz.func96 rfl (Nat.le_of_ble_eq_true rfl) fun F=> ?_
      repeat' (first|apply B4|refine CF (fun β=> ?_)|refine Cn (fun β=> ?_)|refine B0 ?_|apply B5)
      refine Cu [.q [0,1,2,3,4,5,6,7,8,9,10,11,12,13,14],.h true 15] [] Ac Ac Ac Ac ?_
      repeat' (first|refine Cq rfl rfl rfl (EW rfl rfl rfl rfl rfl) ?_|refine B3 0 BY BM ?_|refine Cw 2 BZ ?_|refine CE 2 BY AC Ab ?_|refine B3 3 BY Ah ?_|refine Cw 3 BZ ?_|refine B3 5 BY Al ?_|refine Cw 5 BZ ?_|refine CQ rfl ?_|(refine Kq rfl rfl rfl rfl rfl rfl rfl rfl (WH 0) (fun h=>by cases h) (fun _=> .inl ⟨_,List.Perm.refl _⟩) ?_;rintro _ _ ⟨D6,rfl,rfl⟩;refine .inr ⟨_,_,rfl,rfl,?_⟩;repeat (refine C9 ?_))|apply B5)
      exact DB ⟨_,rfl,rfl⟩
end Go.Proofs.YtcnmnmjmpocepaaGreatDoor.Cd
end
