
import Derived.Test.YtcnmnmjmpocepaaGreatDoorV00
import Derived.Test.YtcnmnmjmpocepaaGreatDoorV09
import Derived.Test.YtcnmnmjmpocepaaGreatDoorV36
set_option linter.unusedVariables false
set_option linter.unusedSimpArgs false
set_option linter.unusedSectionVars false
set_option maxRecDepth 100000
set_option maxHeartbeats 16000000
section
namespace Go.Proofs.YtcnmnmjmpocepaaGreatDoor.Cd
open Go.SL
theorem br{α:Type}{r:Rd α}{s:List UInt8}(hr:∀ {a b:Nat} {x:α},a≤s.length->r a= .ok (x,b)->b≤s.length):∀ {n a b:Nat} {l:List α},a≤s.length->rep r n a= .ok (l,b)->b≤s.length:=by
  intro n;induction n with
  |zero=>intro a b l ha h;simp only [rep] at h;cases h;exact ha
  | succ n ih=>
    intro a b l ha h;simp only [rep] at h
    split at h
    · rename_i h1
      split at h
      · rename_i h2
        cases h
        exact hr (ih ha h1) h2
      · cases h
    · cases h
theorem Si{s:List UInt8}{a b:Nat}{most cl:Int}{l:List Int}(ha:a≤s.length)(h:E5 s most cl a= .ok (l,b)):b≤s.length:=by
  unfold E5 at h
  split at h
  · rename_i h1
    exact br (fun _ h=>(GF h).2.2) (GF h1).2.2 h
  · cases h
attribute [local irreducible] SL.T Dw DG DE DI Et D0
theorem Rx (E3:Nat)(s:List UInt8)(a:Nat)(most cl:Int)(hs:s.length≤9223372036854775807)(ha:a≤s.length)(hm:most≤1000):
    SL.T Tryz.prog 151 [ptr E3,i64 most,i64 cl] [HZ E3 s a]
      (RQ (FC s most cl a) fun m b e o=>∃hp pb pc hc cb cc,e= .returned (.agg ⟨[.slice pb m.params.length pc,i64 m.lo,i64 m.st,.slice cb m.code.length cc]⟩)/\OS hp pb m.params.length pc 79 1 (m.params.map i64)/\OS hc cb m.code.length cc 24 3 (CZ m.code)/\m.params.length≤1000/\m.code.length≤1000/\b≤s.length/\o= [hp,hc,HZ E3 s b]):=by
  unfold FC;have g0:=Np E3 s a most cl hs ha hm;cases h0:E5 s most cl a with
  | error q=>
    rw [h0] at g0
    refine CM Tryz.func151 rfl (Nat.le_of_ble_eq_true rfl) fun F=> ?_
    repeat' (first|apply Cv|refine Ct 0 Cr Ap ?_|(refine gk 4 rfl ?_;(refine Ft rfl rfl rfl rfl rfl rfl rfl rfl (g0) ?_;rintro _ _ ⟨Ec,rfl,rfl⟩;refine .inr ⟨_,rfl,?_⟩;repeat (refine DF ?_)))|refine CT (fun β=> ?_)|refine Cu ?_|apply Cw)
    exact Eb ⟨_,rfl,rfl⟩
  | ok r0 =>
    obtain⟨ps,x0⟩:=r0;rw [h0] at g0
    have O4:x0≤s.length:=Si ha h0;dsimp only;have g1:=fun b1 b2=>Hk E3 s x0 1 b1 b2 ps.length 16 hs O4 Ah
    cases h1:num s 1 (fun z=>wi z ps.length 16) x0 with
    | error q=>
      rw [h1] at g1
      refine CM Tryz.func151 rfl (Nat.le_of_ble_eq_true rfl) fun F=> ?_
      repeat' (first|apply Cv|refine Ct 0 Cr Ap ?_|refine Ct 3 Cr Af ?_|refine Ct 4 Cr Ae ?_|(refine gk 4 rfl ?_;(refine CK rfl rfl rfl rfl rfl rfl rfl rfl (Dy ps.length 16) ?_;rintro _ _ ⟨b1,b2,rfl,rfl⟩;refine⟨_,_,rfl,rfl,?_⟩))|(refine gk 4 rfl ?_;(refine CK rfl rfl rfl rfl rfl rfl rfl rfl (g0) ?_;rintro _ _ ⟨hp,pb,pc,rfl,osp,O4,OR,rfl⟩;refine⟨_,_,rfl,rfl,?_⟩))|(refine gk 4 rfl ?_;(refine Ft rfl rfl rfl rfl rfl rfl rfl rfl (g1 _ _) ?_;rintro _ _ ⟨Ec,rfl,rfl⟩;refine .inr ⟨_,rfl,?_⟩;repeat (refine DF ?_)))|refine Ct 5 Cr Aq ?_|refine CT (fun β=> ?_)|refine CN ?_|refine Cu ?_|apply Cw)
      exact Eb ⟨_,rfl,rfl⟩
    | ok r1 =>
      obtain⟨lo,x1⟩:=r1;rw [h1] at g1
      have jE:x1≤s.length:=(GF h1).2.2;dsimp only;have g2:=fun b1 b2=>Hk E3 s x1 1 b1 b2 0 32 hs jE Ah
      cases h2:num s 1 (fun z=>wi z 0 32) x1 with
      | error q=>
        rw [h2] at g2
        refine CM Tryz.func151 rfl (Nat.le_of_ble_eq_true rfl) fun F=> ?_
        repeat' (first|apply Cv|refine Ct 0 Cr Ap ?_|refine Ct 3 Cr Af ?_|refine Ct 4 Cr Ae ?_|(refine gk 4 rfl ?_;(refine CK rfl rfl rfl rfl rfl rfl rfl rfl (Dy ps.length 16) ?_;rintro _ _ ⟨b1,b2,rfl,rfl⟩;refine⟨_,_,rfl,rfl,?_⟩))|(refine gk 4 rfl ?_;(refine CK rfl rfl rfl rfl rfl rfl rfl rfl (Dy 0 32) ?_;rintro _ _ ⟨b3,b4,rfl,rfl⟩;refine⟨_,_,rfl,rfl,?_⟩))|(refine gk 4 rfl ?_;(refine CK rfl rfl rfl rfl rfl rfl rfl rfl (g0) ?_;rintro _ _ ⟨hp,pb,pc,rfl,osp,O4,OR,rfl⟩;refine⟨_,_,rfl,rfl,?_⟩))|(refine gk 4 rfl ?_;(refine CK rfl rfl rfl rfl rfl rfl rfl rfl (g1 _ _) ?_;rintro _ _ ⟨rfl,rfl⟩;refine⟨_,_,rfl,rfl,?_⟩))|(refine gk 4 rfl ?_;(refine Ft rfl rfl rfl rfl rfl rfl rfl rfl (g2 _ _) ?_;rintro _ _ ⟨Ec,rfl,rfl⟩;refine .inr ⟨_,rfl,?_⟩;repeat (refine DF ?_)))|refine Ct 5 Cr Aq ?_|refine CT (fun β=> ?_)|refine CN ?_|refine Cu ?_|apply Cw)
        exact Eb ⟨_,rfl,rfl⟩
      | ok r2=>
        obtain⟨st,x2⟩:=r2;rw [h2] at g2
        have hx2:x2≤s.length:=(GF h2).2.2;dsimp only;have g3:=fun b1 b2=>Hk E3 s x2 2 b1 b2 1 256 hs hx2 Ah
        cases h3:num s 2 (fun z=>wi z 1 256) x2 with
        | error q=>
          rw [h3] at g3
          refine CM Tryz.func151 rfl (Nat.le_of_ble_eq_true rfl) fun F=> ?_
          repeat' (first|apply Cv|refine Ct 0 Cr Ap ?_|refine Ct 3 Cr Af ?_|refine Ct 4 Cr Ae ?_|(refine gk 4 rfl ?_;(refine CK rfl rfl rfl rfl rfl rfl rfl rfl (Dy ps.length 16) ?_;rintro _ _ ⟨b1,b2,rfl,rfl⟩;refine⟨_,_,rfl,rfl,?_⟩))|(refine gk 4 rfl ?_;(refine CK rfl rfl rfl rfl rfl rfl rfl rfl (Dy 0 32) ?_;rintro _ _ ⟨b3,b4,rfl,rfl⟩;refine⟨_,_,rfl,rfl,?_⟩))|(refine gk 4 rfl ?_;(refine CK rfl rfl rfl rfl rfl rfl rfl rfl (Dy 1 256) ?_;rintro _ _ ⟨b5,b6,rfl,rfl⟩;refine⟨_,_,rfl,rfl,?_⟩))|(refine gk 4 rfl ?_;(refine CK rfl rfl rfl rfl rfl rfl rfl rfl (g0) ?_;rintro _ _ ⟨hp,pb,pc,rfl,osp,O4,OR,rfl⟩;refine⟨_,_,rfl,rfl,?_⟩))|(refine gk 4 rfl ?_;(refine CK rfl rfl rfl rfl rfl rfl rfl rfl (g1 _ _) ?_;rintro _ _ ⟨rfl,rfl⟩;refine⟨_,_,rfl,rfl,?_⟩))|(refine gk 4 rfl ?_;(refine CK rfl rfl rfl rfl rfl rfl rfl rfl (g2 _ _) ?_;rintro _ _ ⟨rfl,rfl⟩;refine⟨_,_,rfl,rfl,?_⟩))|(refine gk 4 rfl ?_;(refine Ft rfl rfl rfl rfl rfl rfl rfl rfl (g3 _ _) ?_;rintro _ _ ⟨Ec,rfl,rfl⟩;refine .inr ⟨_,rfl,?_⟩;repeat (refine DF ?_)))|refine Ct 5 Cr Aq ?_|refine CT (fun β=> ?_)|refine CN ?_|refine Cu ?_|apply Cw)
          exact Eb ⟨_,rfl,rfl⟩
        | ok r3=>
          obtain⟨n,x3⟩:=r3;rw [h3] at g3
          obtain⟨hw, -,kK⟩:=GF h3;have Yx:1≤n/\n≤256:=by unfold wi at hw;simpa using hw
          obtain⟨n,rfl⟩:=Int.eq_ofNat_of_zero_le (show 0≤n by omega);dsimp only;rw [Int.toNat_natCast];have g4:=UD n E3 s x3 hs kK Ab;cases h4:rep (J4 s) n x3 with
          | error q=>
            rw [h4] at g4
            refine CM Tryz.func151 rfl (Nat.le_of_ble_eq_true rfl) fun F=> ?_
            repeat' (first|apply Cv|refine Ct 0 Cr Bt ?_|refine Ct 3 Cr Af ?_|refine Ct 4 Cr Ae ?_|(refine gk 4 rfl ?_;(refine CK rfl rfl rfl rfl rfl rfl rfl rfl (Dy ps.length 16) ?_;rintro _ _ ⟨b1,b2,rfl,rfl⟩;refine⟨_,_,rfl,rfl,?_⟩))|(refine gk 4 rfl ?_;(refine CK rfl rfl rfl rfl rfl rfl rfl rfl (Dy 0 32) ?_;rintro _ _ ⟨b3,b4,rfl,rfl⟩;refine⟨_,_,rfl,rfl,?_⟩))|(refine gk 4 rfl ?_;(refine CK rfl rfl rfl rfl rfl rfl rfl rfl (Dy 1 256) ?_;rintro _ _ ⟨b5,b6,rfl,rfl⟩;refine⟨_,_,rfl,rfl,?_⟩))|(refine gk 4 rfl ?_;(refine CK rfl rfl rfl rfl rfl rfl rfl rfl (g0) ?_;rintro _ _ ⟨hp,pb,pc,rfl,osp,O4,OR,rfl⟩;refine⟨_,_,rfl,rfl,?_⟩))|(refine gk 4 rfl ?_;(refine CK rfl rfl rfl rfl rfl rfl rfl rfl (g1 _ _) ?_;rintro _ _ ⟨rfl,rfl⟩;refine⟨_,_,rfl,rfl,?_⟩))|(refine gk 4 rfl ?_;(refine CK rfl rfl rfl rfl rfl rfl rfl rfl (g2 _ _) ?_;rintro _ _ ⟨rfl,rfl⟩;refine⟨_,_,rfl,rfl,?_⟩))|(refine gk 4 rfl ?_;(refine CK rfl rfl rfl rfl rfl rfl rfl rfl (g3 _ _) ?_;rintro _ _ ⟨rfl,rfl⟩;refine⟨_,_,rfl,rfl,?_⟩))|(refine gk 4 rfl ?_;(refine Ft rfl rfl rfl rfl rfl rfl rfl rfl (g4) ?_;rintro _ _ ⟨Ec,rfl,rfl⟩;refine .inr ⟨_,rfl,?_⟩;repeat (refine DF ?_)))|refine Ct 5 Cr Aq ?_|refine CT (fun β=> ?_)|refine CN ?_|refine Cu ?_|apply Cw)
            exact Eb ⟨_,rfl,rfl⟩
          | ok r4=>
            obtain⟨code,x4⟩:=r4;rw [h4] at g4
            refine CM Tryz.func151 rfl (Nat.le_of_ble_eq_true rfl) fun F=> ?_
            repeat' (first|apply Cv|refine Ct 0 Cr Bt ?_|refine Ct 3 Cr AE ?_|refine Ct 4 Cr Ae ?_|(refine gk 4 rfl ?_;(refine CK rfl rfl rfl rfl rfl rfl rfl rfl (Dy ps.length 16) ?_;rintro _ _ ⟨b1,b2,rfl,rfl⟩;refine⟨_,_,rfl,rfl,?_⟩))|(refine gk 4 rfl ?_;(refine CK rfl rfl rfl rfl rfl rfl rfl rfl (Dy 0 32) ?_;rintro _ _ ⟨b3,b4,rfl,rfl⟩;refine⟨_,_,rfl,rfl,?_⟩))|(refine gk 4 rfl ?_;(refine CK rfl rfl rfl rfl rfl rfl rfl rfl (Dy 1 256) ?_;rintro _ _ ⟨b5,b6,rfl,rfl⟩;refine⟨_,_,rfl,rfl,?_⟩))|(refine gk 4 rfl ?_;(refine CK rfl rfl rfl rfl rfl rfl rfl rfl (g0) ?_;rintro _ _ ⟨hp,pb,pc,rfl,osp,O4,OR,rfl⟩;refine⟨_,_,rfl,rfl,?_⟩))|(refine gk 4 rfl ?_;(refine CK rfl rfl rfl rfl rfl rfl rfl rfl (g1 _ _) ?_;rintro _ _ ⟨rfl,rfl⟩;refine⟨_,_,rfl,rfl,?_⟩))|(refine gk 4 rfl ?_;(refine CK rfl rfl rfl rfl rfl rfl rfl rfl (g2 _ _) ?_;rintro _ _ ⟨rfl,rfl⟩;refine⟨_,_,rfl,rfl,?_⟩))|(refine gk 4 rfl ?_;(refine CK rfl rfl rfl rfl rfl rfl rfl rfl (g3 _ _) ?_;rintro _ _ ⟨rfl,rfl⟩;refine⟨_,_,rfl,rfl,?_⟩))|(refine gk 4 rfl ?_;(refine CK rfl rfl rfl rfl rfl rfl rfl rfl (g4) ?_;rintro _ _ ⟨hc,cb,cc,rfl,osc,hx4,Jt,rfl⟩;refine⟨_,_,rfl,rfl,?_⟩))|refine Ct 5 Cr Aq ?_|refine CT (fun β=> ?_)|refine CN ?_|refine Cu ?_|apply Cw|refine Cy ?_|apply Cz)
            subst Jt;exact EK [hp,hc,HZ E3 s x4] (CD (CR rfl rfl rfl rfl)) ⟨hp,pb,pc,hc,cb,cc,rfl,osp,osc,OR,by dsimp only;omega,hx4,rfl⟩
end Go.Proofs.YtcnmnmjmpocepaaGreatDoor.Cd
end
section
namespace Go.Proofs.YtcnmnmjmpocepaaGreatDoor.Cd
open Go.SL
def KI(K:CA)(cls:List (List Int))(C9:List Value):Prop:=
  C9.length=cls.length/\∀(i:Nat) (f:List Int),cls[i]?=some f->∃fb fn fc,C9[i]?=some (.slice fb fn fc)/\Sl K fb (f.map i64)/\f.length=fn/\fn≤1000
theorem KI.mono{K K':CA}{cls:List (List Int)}{C9:List Value}(h:KI K cls C9)(l:hle K K'):KI K' cls C9:=by
  refine⟨h.1,fun i f hf=> ?_⟩;obtain⟨fb,fn,fc,g1,g2,g3⟩:=h.2 i f hf;exact⟨fb,fn,fc,g1,g2.mono l,g3⟩
theorem KI.snoc{K:CA}{cls:List (List Int)}{C9:List Value}{f:List Int}{fb:Option Addr}{fn fc:Nat}(h:KI K cls C9)(h1:Sl K fb (f.map i64))(h2:f.length=fn)(h3:fn≤1000):KI K (cls++ [f]) (C9++ [.slice fb fn fc]):=by
  refine⟨by simp [h.1],fun i g hg=> ?_⟩;by_cases hi:i<cls.length
  · rw [List.getElem?_append_left hi] at hg
    obtain⟨gb,gn,gc,g1,g2⟩:=h.2 i g hg;exact⟨gb,gn,gc,by rw [List.getElem?_append_left (by rw [h.1];exact hi)];exact g1,g2⟩
  · have LW:i=cls.length:=by
      have:=(List.getElem?_eq_some_iff.1 hg).1;simp at this;omega
    subst LW;simp at hg;subst hg
    exact⟨fb,fn,fc,by rw [<-h.1];simp,h1,h2,h3⟩
theorem KI.nil{K:CA}:KI K [] []:=⟨rfl,fun i f h=>by simp at h⟩
attribute [local irreducible] SL.T Dw DG DE DI Et D0
theorem T9(DA E3 LY:Nat)(s:List UInt8)(a:Nat)(cl:Int)(hs:s.length≤9223372036854775807)(ha:a≤s.length):
    SL.T Tryz.prog 147 [ptr DA,ptr LY] [CV DA (.cells ⟨[ptr E3]⟩ 182 (0,0)),CV LY (.cells ⟨[i64 cl]⟩ 3 (0,0)),HZ E3 s a]
      (RQ (E5 s 8 cl a) fun l b e o=>∃h base cap,e= .returned (.agg ⟨[.slice base l.length cap]⟩)/\OS h base l.length cap 79 1 (l.map i64)/\b≤s.length/\l.length≤1000/\o= [h,CV DA (.cells ⟨[ptr E3]⟩ 182 (0,0)),CV LY (.cells ⟨[i64 cl]⟩ 3 (0,0)),HZ E3 s b]):=by
  have g:=Np E3 s a 8 cl hs ha Ah;cases h1:E5 s 8 cl a with
  | error q=>
    rw [h1] at g
    refine CM Tryz.func147 rfl (Nat.le_of_ble_eq_true rfl) fun F=> ?_
    repeat' (first|apply Cv|refine Ct 3 Cr AN ?_|(refine gk 4 rfl ?_;(refine Ft rfl rfl rfl rfl rfl rfl rfl rfl (g) ?_;rintro _ _ ⟨Ec,rfl,rfl⟩;refine .inr ⟨_,rfl,?_⟩;repeat (refine DF ?_)))|refine CT (fun β=> ?_)|refine Cu ?_|apply Cw)
    exact Eb ⟨_,rfl,rfl⟩
  | ok r=>
    obtain⟨l,b⟩:=r;rw [h1] at g
    refine CM Tryz.func147 rfl (Nat.le_of_ble_eq_true rfl) fun F=> ?_
    repeat' (first|apply Cv|refine Ct 3 Cr AN ?_|(refine gk 4 rfl ?_;(refine CK rfl rfl rfl rfl rfl rfl rfl rfl (g) ?_;rintro _ _ ⟨h,base,cap,rfl,os,hb,hl,rfl⟩;refine⟨_,_,rfl,rfl,?_⟩))|refine Ct 5 Cr Aq ?_|refine CT (fun β=> ?_)|refine CN ?_|refine Cu ?_|apply Cw|refine Cy ?_|apply Cz)
    exact EK [h,CV DA (.cells ⟨[ptr E3]⟩ 182 (0,0)),CV LY (.cells ⟨[i64 cl]⟩ 3 (0,0)),HZ E3 s b] (CD (CR rfl rfl rfl rfl)) ⟨h,base,cap,rfl,os,hb,hl,rfl⟩
structure SC where
  j:Nat
  a:Nat
  h:CA
  b:Option Addr
  c:Nat
  K:CA
  cls:List (List Int)
  C9:List Value
theorem UE(n:Nat)(DA E3 LY:Nat)(s:List UInt8)(a:Nat)(cl:Int)(hs:s.length≤9223372036854775807)(ha:a≤s.length)(hn:n≤1000):
    SL.T Tryz.prog 146 [i64 (n:Int),.func (.func 147) #[] #[ptr DA,ptr LY]] [CV DA (.cells ⟨[ptr E3]⟩ 182 (0,0)),CV LY (.cells ⟨[i64 cl]⟩ 3 (0,0)),HZ E3 s a]
      (RQ (rep (E5 s 8 cl) n a) fun cls b e o=>∃K h base cap C9,e= .returned (.slice base n cap)/\OS h base n cap 76 1 C9/\KI K cls C9/\b≤s.length/\cls.length=n/\o= [K,h,CV DA (.cells ⟨[ptr E3]⟩ 182 (0,0)),CV LY (.cells ⟨[i64 cl]⟩ 3 (0,0)),HZ E3 s b]):=by
  refine CM Tryz.func146 rfl (Nat.le_of_ble_eq_true rfl) fun F=> ?_
  refine DH ?_;refine DH ?_
  repeat' (first|apply Cv|refine Ct 0 Cr Ag ?_|refine Cu ?_|apply Cw|refine Cy ?_|refine CC ?_)
  refine Lu (fun t:SC=> [(1,.func (.func 147) #[] #[ptr DA,ptr LY]),(4,.slice t.b t.j t.c),(5,i64 (n:Int)),(6,i64 (t.j:Int))])
    (fun t=> [t.K,t.h,CV DA (.cells ⟨[ptr E3]⟩ 182 (0,0)),CV LY (.cells ⟨[i64 cl]⟩ 3 (0,0)),HZ E3 s t.a])
    (fun t=>t.j≤n/\t.a≤s.length/\rep (E5 s 8 cl) t.j a= .ok (t.cls,t.a)/\OS t.h t.b t.j t.c 76 1 t.C9/\KI t.K t.cls t.C9)
    (fun t=>n - t.j) ⟨0,a,emp,none,0,emp,[],[]⟩ (by repeat first|exact Sub.nil _|refine Sub.cons rfl ?_) ⟨Nat.zero_le _,ha,rfl,OS.nil,KI.nil⟩ ?_
  rintro⟨j,x,h,b,c,K,cls,C9⟩ ⟨hj,hx,hr,os,hP⟩;dsimp only at hj hx hr os hP ⊢
  by_cases FF:j<n
  · have hk:=T9 DA E3 LY s x cl hs hx;cases h1:E5 s 8 cl x with
    | error q=>
      rw [h1] at hk
      repeat' (first|apply Cv|refine Ct 0 Cr Ap ?_|refine CO 2 Cr Aj Ab ?_|(refine gk 4 rfl ?_;(refine Ft rfl rfl rfl rfl rfl rfl rfl rfl (hk) ?_;rintro _ _ ⟨Ec,rfl,rfl⟩;refine .inr ⟨_,rfl,?_⟩;repeat (first|refine DF ?_|refine LJ ?_)))|refine Cu ?_|apply Cw|refine CH ?_|refine CC ?_|apply CB)
      rw [Tv FF hr h1];exact Eb ⟨_,rfl,rfl⟩
    | ok r=>
      obtain⟨z,y⟩:=r;rw [h1] at hk
      repeat' (first|apply Cv|refine Ct 0 Cr Ag ?_|refine Ct 1 Cr Ao ?_|refine CO 2 Cr Aj Ab ?_|(refine gk 4 rfl ?_;(refine CK rfl rfl rfl rfl rfl rfl rfl rfl (hk) ?_;rintro _ _ ⟨hz,bz,cz,rfl,osz,hy,hl,rfl⟩;refine⟨_,_,rfl,rfl,?_⟩))|refine gk 4 rfl (EH rfl rfl rfl rfl rfl rfl rfl rfl rfl Ad Av Ah Av Ab Ab (fun h' b' c' HS OU=> ?_))|refine CP (fun b=> ?_)|refine Cu ?_|apply Cw|refine Cy ?_|refine CH ?_|refine CC ?_|apply CB)
      intro hd;have dj:Eo hz K:=YL hd;refine⟨rfl,⟨j+1,y,h',b',c',join hz K,cls++ [z],C9++ [.slice bz z.length cz]⟩,R9 (h:=hz) (k:=K) (by repeat first|exact Sub.nil _|refine Sub.cons rfl ?_),⟨by dsimp only;omega,hy,by simp only [rep,hr,h1],HS,?_⟩,by dsimp only;omega⟩;exact(hP.mono (Fl dj)).snoc (osz.sl.mono FW) rfl hl
  · obtain rfl:j=n:=by omega
    repeat' (first|apply Cv|refine Ct 0 Cr Ag ?_|refine CY 2 Cr Aj Ab ?_|refine Cu ?_|apply Cw|refine Cy ?_|refine CF ?_|apply Cz|refine C1 ?_)
    rw [hr];exact EK [K,h,CV DA (.cells ⟨[ptr E3]⟩ 182 (0,0)),CV LY (.cells ⟨[i64 cl]⟩ 3 (0,0)),HZ E3 s x] (CD (Cx rfl)) ⟨K,h,b,c,C9,rfl,os,hP,hx,Pk hr,rfl⟩
end Go.Proofs.YtcnmnmjmpocepaaGreatDoor.Cd
end
section
namespace Go.Proofs.YtcnmnmjmpocepaaGreatDoor.Cd
open Go.SL
def Uj(K:CA)(ms:List Me)(C9:List Value):Prop:=
  C9.length=ms.length*4/\∀(i:Nat) (m:Me),ms[i]?=some m->∃pb pc cb cc,C9[i*4]?=some (.slice pb m.params.length pc)/\C9[i*4+1]?=some (i64 m.lo)/\C9[i*4+2]?=some (i64 m.st)/\C9[i*4+3]?=some (.slice cb m.code.length cc)/\
    Sl K pb (m.params.map i64)/\m.params.length≤1000/\Sl K cb (CZ m.code)/\m.code.length≤cc/\m.code.length≤1000
theorem Uj.mono{K K':CA}{ms:List Me}{C9:List Value}(h:Uj K ms C9)(l:hle K K'):Uj K' ms C9:=by
  refine⟨h.1,fun i m hm=> ?_⟩;obtain⟨pb,pc,cb,cc,g1,g2,g3,g4,g5,g6,g7,g8⟩:=h.2 i m hm;exact⟨pb,pc,cb,cc,g1,g2,g3,g4,g5.mono l,g6,g7.mono l,g8⟩
theorem Uj.nil{K:CA}:Uj K [] []:=⟨rfl,fun i f h=>by simp at h⟩
theorem eK{C9:List Value}{v0 v1 v2 v3:Value}{n:Nat}(h:C9.length=n*4):(C9++ [v0,v1,v2,v3])[n*4]?=some v0/\(C9++ [v0,v1,v2,v3])[n*4+1]?=some v1/\(C9++ [v0,v1,v2,v3])[n*4+2]?=some v2/\(C9++ [v0,v1,v2,v3])[n*4+3]?=some v3:=by
  rw [<-h];refine⟨by simp,?_,?_,?_⟩ <;>(rw [List.getElem?_append_right Ab];simp)
theorem Uj.snoc{K:CA}{ms:List Me}{C9:List Value}{m:Me}{pb cb:Option Addr}{pc cc:Nat}(h:Uj K ms C9)(h1:Sl K pb (m.params.map i64))(h2:m.params.length≤1000)(h3:Sl K cb (CZ m.code))(h4:m.code.length≤cc)(h5:m.code.length≤1000):
    Uj K (ms++ [m]) (C9++ [.slice pb m.params.length pc,i64 m.lo,i64 m.st,.slice cb m.code.length cc]):=by
  obtain⟨a1,a2⟩:=h;refine⟨by simp [a1];omega,fun i m' O5=> ?_⟩;by_cases hi:i<ms.length
  · rw [List.getElem?_append_left hi] at O5
    obtain⟨lv,lu,nB,iQ,g1,g2,g3,g4,g5⟩:=a2 i m' O5;refine⟨lv,lu,nB,iQ,?_,?_,?_,?_,g5⟩
    all_goals (rw [List.getElem?_append_left Ab];assumption)
  · have LW:i=ms.length:=by
      have:=(List.getElem?_eq_some_iff.1 O5).1;simp at this;omega
    subst LW;simp at O5;subst O5
    obtain⟨q0,q1,q2,q3⟩:=eK (v0:= .slice pb m.params.length pc) (v1:=i64 m.lo) (v2:=i64 m.st) (v3:= .slice cb m.code.length cc) a1;exact⟨pb,pc,cb,cc,q0,q1,q2,q3,h1,h2,h3,h4,h5⟩
def Ob(s:List UInt8)(cl:Int):Nat->Rd (List Me)
  |0=>fun a=> .ok ([],a)
  | k+1=>fun a=>match Ob s cl k a with
    | .ok (l,a1)=>match FC s (if k=0 then 0 else 16) cl a1 with| .ok (x,a2)=> .ok (l++ [x],a2)| .error e=> .error e
    | .error e=> .error e
theorem fK{s:List UInt8}{cl:Int}{a b q:Nat}{l:List Me}{j n:Nat}:j<n->Ob s cl j a= .ok (l,b)->FC s (if j=0 then 0 else 16) cl b= .error q->Ob s cl n a= .error q:=by
  induction n with
  |zero=>intro h;omega
  | succ n ih=>
    intro h h1 h2;by_cases e:j=n
    · subst e;simp only [Ob,h1,h2]
    · simp only [Ob,ih Ab h1 h2]
theorem Yo{s:List UInt8}{cl:Int}{a:Nat}:∀ {n b:Nat} {l:List Me},Ob s cl n a= .ok (l,b)->l.length=n:=by
  intro n;induction n with
  |zero=>intro b l h;simp only [Ob] at h;cases h;rfl
  | succ n ih=>
    intro b l h;simp only [Ob] at h
    split at h
    · rename_i h1
      split at h
      · cases h
        simp [ih h1]
      · cases h
    · cases h
attribute [local irreducible] SL.T Dw DG DE DI Et D0
theorem Ry(DA FT E3 LY:Nat)(s:List UInt8)(a:Nat)(most cl:Int)(hs:s.length≤9223372036854775807)(ha:a≤s.length)(hm:most≤1000):
    SL.T Tryz.prog 150 [ptr DA,ptr FT,ptr LY] [CV DA (.cells ⟨[ptr E3]⟩ 182 (0,0)),CV FT (.cells ⟨[i64 most]⟩ 3 (0,0)),CV LY (.cells ⟨[i64 cl]⟩ 3 (0,0)),HZ E3 s a]
      (RQ (FC s most cl a) fun m b e o=>∃hp pb pc hc cb cc,e= .returned (.agg ⟨[.slice pb m.params.length pc,i64 m.lo,i64 m.st,.slice cb m.code.length cc]⟩)/\OS hp pb m.params.length pc 79 1 (m.params.map i64)/\OS hc cb m.code.length cc 24 3 (CZ m.code)/\m.params.length≤1000/\m.code.length≤1000/\b≤s.length/\
        o= [hp,hc,CV DA (.cells ⟨[ptr E3]⟩ 182 (0,0)),CV FT (.cells ⟨[i64 16]⟩ 3 (0,0)),CV LY (.cells ⟨[i64 cl]⟩ 3 (0,0)),HZ E3 s b]):=by
  have g:=Rx E3 s a most cl hs ha hm;cases h1:FC s most cl a with
  | error q=>
    rw [h1] at g
    refine CM Tryz.func150 rfl (Nat.le_of_ble_eq_true rfl) fun F=> ?_
    repeat' (first|apply Cv|refine Ct 3 Cr AN ?_|(refine gk 4 rfl ?_;(refine Ft rfl rfl rfl rfl rfl rfl rfl rfl (g) ?_;rintro _ _ ⟨Ec,rfl,rfl⟩;refine .inr ⟨_,rfl,?_⟩;repeat (refine DF ?_)))|refine CT (fun β=> ?_)|refine Cu ?_|apply Cw)
    exact Eb ⟨_,rfl,rfl⟩
  | ok r=>
    obtain⟨m,b⟩:=r;rw [h1] at g
    refine CM Tryz.func150 rfl (Nat.le_of_ble_eq_true rfl) fun F=> ?_
    repeat' (first|apply Cv|refine Ct 3 Cr A2 ?_|(refine gk 4 rfl ?_;(refine CK rfl rfl rfl rfl rfl rfl rfl rfl (g) ?_;rintro _ _ ⟨hp,pb,pc,hc,cb,cc,rfl,osp,osc,VD,LK,hb,rfl⟩;refine⟨_,_,rfl,rfl,?_⟩))|refine CT (fun β=> ?_)|refine CN ?_|refine Cu ?_|apply Cw|refine Cy ?_|apply Cz)
    exact EK [hp,hc,CV DA (.cells ⟨[ptr E3]⟩ 182 (0,0)),CV FT (.cells ⟨[i64 16]⟩ 3 (0,0)),CV LY (.cells ⟨[i64 cl]⟩ 3 (0,0)),HZ E3 s b] (CD (CR rfl rfl rfl rfl)) ⟨hp,pb,pc,hc,cb,cc,rfl,osp,osc,VD,LK,hb,rfl⟩
structure SM where
  j:Nat
  a:Nat
  h:CA
  b:Option Addr
  c:Nat
  K:CA
  ms:List Me
  C9:List Value
  mo:Int
theorem UB(n:Nat)(DA FT E3 LY:Nat)(s:List UInt8)(a:Nat)(cl:Int)(hs:s.length≤9223372036854775807)(ha:a≤s.length)(hn:n≤1000):
    SL.T Tryz.prog 149 [i64 (n:Int),.func (.func 150) #[] #[ptr DA,ptr FT,ptr LY]] [CV DA (.cells ⟨[ptr E3]⟩ 182 (0,0)),CV FT (.cells ⟨[i64 0]⟩ 3 (0,0)),CV LY (.cells ⟨[i64 cl]⟩ 3 (0,0)),HZ E3 s a]
      (RQ (Ob s cl n a) fun ms b e o=>∃K h base cap C9,e= .returned (.slice base n cap)/\OS h base n cap 66 4 C9/\Uj K ms C9/\b≤s.length/\ms.length=n/\o= [K,h,CV DA (.cells ⟨[ptr E3]⟩ 182 (0,0)),CV LY (.cells ⟨[i64 cl]⟩ 3 (0,0)),HZ E3 s b]):=by
  refine CM Tryz.func149 rfl (Nat.le_of_ble_eq_true rfl) fun F=> ?_
  refine DH ?_;refine DH ?_
  repeat' (first|apply Cv|refine Ct 0 Cr Ag ?_|refine Cu ?_|apply Cw|refine Cy ?_|refine CC ?_)
  refine Lu (fun t:SM=> [(1,.func (.func 150) #[] #[ptr DA,ptr FT,ptr LY]),(4,.slice t.b t.j t.c),(5,i64 (n:Int)),(6,i64 (t.j:Int))])
    (fun t=> [t.K,t.h,CV DA (.cells ⟨[ptr E3]⟩ 182 (0,0)),CV FT (.cells ⟨[i64 t.mo]⟩ 3 (0,0)),CV LY (.cells ⟨[i64 cl]⟩ 3 (0,0)),HZ E3 s t.a])
    (fun t=>t.j≤n/\t.a≤s.length/\Ob s cl t.j a= .ok (t.ms,t.a)/\OS t.h t.b t.j t.c 66 4 t.C9/\Uj t.K t.ms t.C9/\t.mo=if t.j=0 then 0 else 16)
    (fun t=>n - t.j) ⟨0,a,emp,none,0,emp,[],[],0⟩ (by repeat first|exact Sub.nil _|refine Sub.cons rfl ?_) ⟨Nat.zero_le _,ha,rfl,OS.nil,Uj.nil,rfl⟩ ?_
  rintro⟨j,x,h,b,c,K,ms,C9,mo⟩ ⟨hj,hx,hr,os,hP,cY⟩;dsimp only at hj hx hr os hP cY ⊢
  by_cases FF:j<n
  · have hk:=Ry DA FT E3 LY s x mo cl hs hx (by rw [cY];split <;>decide);cases h1:FC s (if j=0 then 0 else 16) cl x with
    | error q=>
      rw [cY,h1,<-cY] at hk
      repeat' (first|apply Cv|refine Ct 0 Cr Ap ?_|refine CO 2 Cr Aj Ab ?_|(refine gk 4 rfl ?_;(refine Ft rfl rfl rfl rfl rfl rfl rfl rfl (hk) ?_;rintro _ _ ⟨Ec,rfl,rfl⟩;refine .inr ⟨_,rfl,?_⟩;repeat (first|refine DF ?_|refine LJ ?_)))|refine Cu ?_|apply Cw|refine CH ?_|refine CC ?_|apply CB)
      rw [fK FF hr h1];exact Eb ⟨_,rfl,rfl⟩
    | ok r=>
      obtain⟨m,y⟩:=r;rw [cY,h1,<-cY] at hk
      repeat' (first|apply Cv|refine Ct 0 Cr Ag ?_|refine Ct 1 Cr Ao ?_|refine CO 2 Cr Aj Ab ?_|(refine gk 4 rfl ?_;(refine CK rfl rfl rfl rfl rfl rfl rfl rfl (hk) ?_;rintro _ _ ⟨hp,pb,pc,hc,cb,cc,rfl,osp,osc,VD,LK,hy,rfl⟩;refine⟨_,_,rfl,rfl,?_⟩))|refine gk 4 rfl (EH rfl rfl rfl rfl rfl rfl rfl rfl rfl Ad Av Ah Av Ab Ab (fun h' b' c' HS OU=> ?_))|refine CP (fun b=> ?_)|refine Cu ?_|apply Cw|refine Cy ?_|refine CH ?_|refine CC ?_|apply CB)
      intro hd;obtain⟨d1,d2,d3⟩:=dF (h:=hp) (g:=hc) (k:=K) hd;refine⟨rfl,⟨j+1,y,h',b',c',join hp (join hc K),ms++ [m],_,16⟩,Mv (h:=hp) (g:=hc) (k:=K) (by repeat first|exact Sub.nil _|refine Sub.cons rfl ?_),⟨by dsimp only;omega,hy,by simp only [Ob,hr,h1],HS,?_,by dsimp only;rw [if_neg Ab]⟩,by dsimp only;omega⟩;have l1:hle (join hc K) (join hp (join hc K)):=Fl (GV d1 d2);exact(hP.mono ((Fl d3).trans l1)).snoc (osp.sl.mono FW) VD (osc.sl.mono (FW.trans l1)) osc.hle LK
  · obtain rfl:j=n:=by omega
    repeat' (first|apply Cv|refine Ct 0 Cr Ag ?_|refine CY 2 Cr Aj Ab ?_|refine Cu ?_|apply Cw|refine Cy ?_|refine CF ?_|apply Cz|refine C1 ?_)
    rw [hr];exact EK [K,h,CV DA (.cells ⟨[ptr E3]⟩ 182 (0,0)),CV LY (.cells ⟨[i64 cl]⟩ 3 (0,0)),HZ E3 s x] (CD (Cx rfl)) ⟨K,h,b,c,C9,rfl,os,hP,hx,Yo hr,rfl⟩
end Go.Proofs.YtcnmnmjmpocepaaGreatDoor.Cd
end
section
namespace Go.Proofs.YtcnmnmjmpocepaaGreatDoor.Cd
open Go.SL
def JN (s :List UInt8):Except Nat Im:=
  if s.take 3= [68,75,1] then
    match num s 1 (fun z=>wi z 0 16) 3 with
    | .error e=> .error e
    | .ok (n,a1)=>match rep (E5 s 8 n) n.toNat a1 with
      | .error e=> .error e
      | .ok (cls,a2)=>match num s 1 (fun z=>wi z 1 32) a2 with
        | .error e=> .error e
        | .ok (k,a3)=>match Ob s n k.toNat a3 with
          | .error e=> .error e
          | .ok (ms,a4)=>if a4=s.length then .ok ⟨cls,ms⟩ else .error a4
  else .error 0
def RI(r:Except Nat Im)(A:Im->Ending->List CA->Prop)(e:Ending)(o:List CA):Prop:=
  match r with| .ok x=>A x e o| .error q=>ky q e o
attribute [local irreducible] SL.T Dw DG DE DI Et D0
theorem Vu (E3:Nat)(s:List UInt8)(hs:s.length≤9223372036854775807):
    SL.T Tryz.prog 96 [ptr E3] [HZ E3 s 0]
      (RI (JN s) fun x e o=>∃K hC K2 hM Du cc mb mc cv mv,e= .returned (.agg ⟨[.slice Du x.cls.length cc,.slice mb x.ms.length mc]⟩)/\OS hC Du x.cls.length cc 76 1 cv/\KI K x.cls cv/\OS hM mb x.ms.length mc 66 4 mv/\Uj K2 x.ms mv/\x.cls.length≤1000/\x.ms.length≤1000/\o= [K,hC,K2,hM]):=by
  unfold JN;have hny:=Qb E3 s;have XB:=Pp E3 s;have hL:∀ {n:Int} {l:Nat},(l:Int)=n->l=n.toNat:=fun h=>by omega
  by_cases hp:s.take 3= [68,75,1]
  · rw [if_pos hp];have hl3:3≤s.length:=by
      have:=congrArg List.length hp;simp at this;omega
    have g1:=fun b1 b2=>Hk E3 s 3 1 b1 b2 0 16 hs hl3 Ah
    cases h1:num s 1 (fun z=>wi z 0 16) 3 with
    | error q=>
      rw [h1] at g1
      refine CM Tryz.func96 rfl (Nat.le_of_ble_eq_true rfl) fun F=> ?_
      repeat' (first|apply Cv|refine C2 (fun β=> ?_)|refine CT (fun β=> ?_)|refine Cu ?_|apply Cw)
      refine De Ac Ac rfl ?_
      repeat' (first|refine CW rfl rfl rfl (Ek rfl rfl rfl rfl rfl) ?_|refine CW rfl rfl rfl (EI rfl rfl rfl Ab Ab) ?_|refine JU rfl rfl rfl (GC rfl rfl rfl) (by simpa using hp) ?_|apply Cv|refine Ct 0 Cr A4 ?_|refine CO 2 Cr AB Ab ?_|refine Ct 3 Cr Af ?_|refine Ct 4 Cr (CE rfl rfl rfl rfl rfl (hny 0)) ?_|refine Ct 5 Cr Ak ?_|refine CN ?_|refine Cu ?_|apply Cw)
      refine C0 [.q [0],.an 3,.h false 1,.h true 2,.rv 3,.h true 4] [] Ac Ac Ac Ac ?_
      repeat' (first|refine Ct 3 Cr AN ?_|refine Dd rfl ?_|refine Dn rfl rfl AR ?_|(refine Ev rfl rfl rfl rfl rfl rfl rfl rfl (Dy 0 16) (by rintro _ _ ⟨b1,b2,rfl,rfl⟩;exact⟨_,rfl⟩) ?_;rintro _ _ ⟨b1,b2,rfl,rfl⟩;refine⟨_,_,rfl,rfl,?_⟩)|(refine Md rfl rfl rfl rfl rfl rfl rfl rfl (g1 _ _) (fun h=>by cases h) (fun _=> .inl ⟨_,List.Perm.refl _⟩) ?_;rintro _ _ ⟨Ec,rfl,rfl⟩;refine .inr ⟨_,_,rfl,rfl,?_⟩;repeat (refine DF ?_))|apply Cw)
      exact Eb ⟨_,rfl,rfl⟩
    | ok r1 =>
      obtain⟨n0,x1⟩:=r1;rw [h1] at g1
      obtain⟨hw, -,jE⟩:=GF h1;have Yx:0≤n0/\n0≤16:=by unfold wi at hw;simpa using hw
      obtain⟨n,rfl⟩:=Int.eq_ofNat_of_zero_le Yx.1;dsimp only;rw [Int.toNat_natCast];have g2:=fun DA LY=>UE n DA E3 LY s x1 n hs jE Ab
      cases h2:rep (E5 s 8 n) n x1 with
      | error q=>
        rw [h2] at g2
        refine CM Tryz.func96 rfl (Nat.le_of_ble_eq_true rfl) fun F=> ?_
        repeat' (first|apply Cv|refine C2 (fun β=> ?_)|refine CT (fun β=> ?_)|refine Cu ?_|apply Cw)
        refine De Ac Ac rfl ?_
        repeat' (first|refine CW rfl rfl rfl (Ek rfl rfl rfl rfl rfl) ?_|refine CW rfl rfl rfl (EI rfl rfl rfl Ab Ab) ?_|refine JU rfl rfl rfl (GC rfl rfl rfl) (by simpa using hp) ?_|apply Cv|refine Ct 0 Cr A4 ?_|refine CO 2 Cr AB Ab ?_|refine Ct 3 Cr Af ?_|refine Ct 4 Cr (CE rfl rfl rfl rfl rfl (hny 0)) ?_|refine Ct 5 Cr Ak ?_|refine CN ?_|refine Cu ?_|apply Cw)
        refine C0 [.q [0],.an 3,.h false 1,.h true 2,.rv 3,.h true 4] [] Ac Ac Ac Ac ?_
        repeat' (first|apply Cv|refine Ct 0 Cr A7 ?_|refine Ct 3 Cr AN ?_|(refine gk 4 rfl ?_;(refine Ft rfl rfl rfl rfl rfl rfl rfl rfl (g2 _ _) ?_;rintro _ _ ⟨Ec,rfl,rfl⟩;refine .inr ⟨_,rfl,?_⟩;repeat (refine DF ?_)))|refine Cu ?_|refine C5 ?_|refine Dd rfl ?_|refine Dn rfl rfl AR ?_|refine DN rfl rfl rfl (fun β=> ?_)|refine Df rfl rfl rfl rfl rfl rfl Aa rfl Aa Aa ?_|(refine Ev rfl rfl rfl rfl rfl rfl rfl rfl (Dy 0 16) (by rintro _ _ ⟨b1,b2,rfl,rfl⟩;exact⟨_,rfl⟩) ?_;rintro _ _ ⟨b1,b2,rfl,rfl⟩;refine⟨_,_,rfl,rfl,?_⟩)|(refine EL rfl rfl rfl rfl rfl rfl rfl rfl (g1 _ _) ?_;rintro _ _ ⟨rfl,rfl⟩;refine⟨_,_,rfl,rfl,?_⟩)|apply Cw)
        exact Eb ⟨_,rfl,rfl⟩
      | ok r2 =>
        obtain⟨cls,x2⟩:=r2;rw [h2] at g2
        have hx2:x2≤s.length:=br (fun h1 h2=>Si h1 h2) jE h2;have Jt:=Pk h2;dsimp only;have g3:=fun b1 b2=>Hk E3 s x2 1 b1 b2 1 32 hs hx2 Ah
        cases h3:num s 1 (fun z=>wi z 1 32) x2 with
        | error q=>
          rw [h3] at g3
          refine CM Tryz.func96 rfl (Nat.le_of_ble_eq_true rfl) fun F=> ?_
          repeat' (first|apply Cv|refine C2 (fun β=> ?_)|refine CT (fun β=> ?_)|refine Cu ?_|apply Cw)
          refine De Ac Ac rfl ?_
          repeat' (first|refine CW rfl rfl rfl (Ek rfl rfl rfl rfl rfl) ?_|refine CW rfl rfl rfl (EI rfl rfl rfl Ab Ab) ?_|refine JU rfl rfl rfl (GC rfl rfl rfl) (by simpa using hp) ?_|apply Cv|refine Ct 0 Cr A4 ?_|refine CO 2 Cr AB Ab ?_|refine Ct 3 Cr Af ?_|refine Ct 4 Cr (CE rfl rfl rfl rfl rfl (hny 0)) ?_|refine Ct 5 Cr Ak ?_|refine CN ?_|refine Cu ?_|apply Cw)
          refine C0 [.q [0],.an 3,.h false 1,.h true 2,.rv 3,.h true 4] [] Ac Ac Ac Ac ?_
          repeat' (first|apply Cv|refine Ct 0 Cr A7 ?_|refine Ct 3 Cr Af ?_|(refine gk 4 rfl ?_;(refine CK rfl rfl rfl rfl rfl rfl rfl rfl (g2 _ _) ?_;rintro _ _ ⟨K,hC,Du,cc,cv,rfl,Ge,hP,ar,LK,rfl⟩;refine⟨_,_,rfl,rfl,?_⟩))|refine CT (fun β=> ?_)|refine CN ?_|refine Cu ?_|refine C5 ?_|refine Dd rfl ?_|refine Dn rfl rfl AR ?_|refine DN rfl rfl rfl (fun β=> ?_)|refine Df rfl rfl rfl rfl rfl rfl Aa rfl Aa Aa ?_|(refine Ev rfl rfl rfl rfl rfl rfl rfl rfl (Dy 0 16) (by rintro _ _ ⟨b1,b2,rfl,rfl⟩;exact⟨_,rfl⟩) ?_;rintro _ _ ⟨b1,b2,rfl,rfl⟩;refine⟨_,_,rfl,rfl,?_⟩)|(refine EL rfl rfl rfl rfl rfl rfl rfl rfl (g1 _ _) ?_;rintro _ _ ⟨rfl,rfl⟩;refine⟨_,_,rfl,rfl,?_⟩)|apply Cw)
          refine C0 [.q [0],.f [3],.h false 1,.h true 2,.h true 4,.q [5],.h true 6] [] Ac Ac Ac Ac ?_
          repeat' (first|refine Ct 0 Cr A7 ?_|refine Ct 3 Cr AN ?_|refine Dd rfl ?_|refine Fq rfl ?_|(refine Ev rfl rfl rfl rfl rfl rfl rfl rfl (Dy 1 32) (by rintro _ _ ⟨b3,b4,rfl,rfl⟩;exact⟨_,rfl⟩) ?_;rintro _ _ ⟨b3,b4,rfl,rfl⟩;refine⟨_,_,rfl,rfl,?_⟩)|(refine Md rfl rfl rfl rfl rfl rfl rfl rfl (g3 _ _) (fun h=>by cases h) (fun _=> .inl ⟨_,List.Perm.refl _⟩) ?_;rintro _ _ ⟨Ec,rfl,rfl⟩;refine .inr ⟨_,_,rfl,rfl,?_⟩;repeat (refine DF ?_))|apply Cw)
          exact Eb ⟨_,rfl,rfl⟩
        | ok r3=>
          obtain⟨k0,x3⟩:=r3;rw [h3] at g3
          obtain⟨hw, -,kK⟩:=GF h3;have Sz:1≤k0/\k0≤32:=by unfold wi at hw;simpa using hw
          obtain⟨k,rfl⟩:=Int.eq_ofNat_of_zero_le (show 0≤k0 by omega);dsimp only;rw [Int.toNat_natCast];have g4:=fun DA FT LY=>UB k DA FT E3 LY s x3 n hs kK Ab
          cases h4:Ob s n k x3 with
          | error q=>
            rw [h4] at g4
            refine CM Tryz.func96 rfl (Nat.le_of_ble_eq_true rfl) fun F=> ?_
            repeat' (first|apply Cv|refine C2 (fun β=> ?_)|refine CT (fun β=> ?_)|refine Cu ?_|apply Cw)
            refine De Ac Ac rfl ?_
            repeat' (first|refine CW rfl rfl rfl (Ek rfl rfl rfl rfl rfl) ?_|refine CW rfl rfl rfl (EI rfl rfl rfl Ab Ab) ?_|refine JU rfl rfl rfl (GC rfl rfl rfl) (by simpa using hp) ?_|apply Cv|refine Ct 0 Cr A4 ?_|refine CO 2 Cr AB Ab ?_|refine Ct 3 Cr Af ?_|refine Ct 4 Cr (CE rfl rfl rfl rfl rfl (hny 0)) ?_|refine Ct 5 Cr Ak ?_|refine CN ?_|refine Cu ?_|apply Cw)
            refine C0 [.q [0],.an 3,.h false 1,.h true 2,.rv 3,.h true 4] [] Ac Ac Ac Ac ?_
            repeat' (first|apply Cv|refine Ct 0 Cr A7 ?_|refine Ct 3 Cr Af ?_|(refine gk 4 rfl ?_;(refine CK rfl rfl rfl rfl rfl rfl rfl rfl (g2 _ _) ?_;rintro _ _ ⟨K,hC,Du,cc,cv,rfl,Ge,hP,ar,LK,rfl⟩;refine⟨_,_,rfl,rfl,?_⟩))|refine CT (fun β=> ?_)|refine CN ?_|refine Cu ?_|refine C5 ?_|refine Dd rfl ?_|refine Dn rfl rfl AR ?_|refine DN rfl rfl rfl (fun β=> ?_)|refine Df rfl rfl rfl rfl rfl rfl Aa rfl Aa Aa ?_|(refine Ev rfl rfl rfl rfl rfl rfl rfl rfl (Dy 0 16) (by rintro _ _ ⟨b1,b2,rfl,rfl⟩;exact⟨_,rfl⟩) ?_;rintro _ _ ⟨b1,b2,rfl,rfl⟩;refine⟨_,_,rfl,rfl,?_⟩)|(refine EL rfl rfl rfl rfl rfl rfl rfl rfl (g1 _ _) ?_;rintro _ _ ⟨rfl,rfl⟩;refine⟨_,_,rfl,rfl,?_⟩)|apply Cw)
            refine C0 [.q [0],.f [3],.h false 1,.h true 2,.h true 4,.q [5],.h true 6] [] Ac Ac Ac Ac ?_
            repeat' (first|refine Ct 0 Cr A7 ?_|refine Ct 3 Cr AN ?_|refine Dd rfl ?_|refine Fq rfl ?_|(refine Ev rfl rfl rfl rfl rfl rfl rfl rfl (Dy 1 32) (by rintro _ _ ⟨b3,b4,rfl,rfl⟩;exact⟨_,rfl⟩) ?_;rintro _ _ ⟨b3,b4,rfl,rfl⟩;refine⟨_,_,rfl,rfl,?_⟩)|(refine EL rfl rfl rfl rfl rfl rfl rfl rfl (g3 _ _) ?_;rintro _ _ ⟨rfl,rfl⟩;refine⟨_,_,rfl,rfl,?_⟩)|(refine Md rfl rfl rfl rfl rfl rfl rfl rfl (g4 _ _ _) (fun h=>by cases h) (fun _=> .inl ⟨_,List.Perm.refl _⟩) ?_;rintro _ _ ⟨Ec,rfl,rfl⟩;refine .inr ⟨_,_,rfl,rfl,?_⟩;repeat (refine DF ?_))|apply Cw)
            exact Eb ⟨_,rfl,rfl⟩
          | ok r4=>
            obtain⟨ms,x4⟩:=r4;rw [h4] at g4
            have Pr:=Yo h4;dsimp only;subst Jt Pr;by_cases h5:x4=s.length
            · rw [if_pos h5];refine CM Tryz.func96 rfl (Nat.le_of_ble_eq_true rfl) fun F=> ?_
              repeat' (first|apply Cv|refine C2 (fun β=> ?_)|refine CT (fun β=> ?_)|refine Cu ?_|apply Cw)
              refine De Ac Ac rfl ?_
              repeat' (first|refine CW rfl rfl rfl (Ek rfl rfl rfl rfl rfl) ?_|refine CW rfl rfl rfl (EI rfl rfl rfl Ab Ab) ?_|refine JU rfl rfl rfl (GC rfl rfl rfl) (by simpa using hp) ?_|apply Cv|refine Ct 0 Cr A4 ?_|refine CO 2 Cr AB Ab ?_|refine Ct 3 Cr Af ?_|refine Ct 4 Cr (CE rfl rfl rfl rfl rfl (hny 0)) ?_|refine Ct 5 Cr Ak ?_|refine CN ?_|refine Cu ?_|apply Cw)
              refine C0 [.q [0],.an 3,.h false 1,.h true 2,.rv 3,.h true 4] [] Ac Ac Ac Ac ?_
              repeat' (first|apply Cv|refine Ct 0 Cr A7 ?_|refine Ct 3 Cr Af ?_|(refine gk 4 rfl ?_;(refine CK rfl rfl rfl rfl rfl rfl rfl rfl (g2 _ _) ?_;rintro _ _ ⟨K,hC,Du,cc,cv,rfl,Ge,hP,ar,LK,rfl⟩;refine⟨_,_,rfl,rfl,?_⟩))|refine CT (fun β=> ?_)|refine CN ?_|refine Cu ?_|refine C5 ?_|refine Dd rfl ?_|refine Dn rfl rfl AR ?_|refine DN rfl rfl rfl (fun β=> ?_)|refine Df rfl rfl rfl rfl rfl rfl Aa rfl Aa Aa ?_|(refine Ev rfl rfl rfl rfl rfl rfl rfl rfl (Dy 0 16) (by rintro _ _ ⟨b1,b2,rfl,rfl⟩;exact⟨_,rfl⟩) ?_;rintro _ _ ⟨b1,b2,rfl,rfl⟩;refine⟨_,_,rfl,rfl,?_⟩)|(refine EL rfl rfl rfl rfl rfl rfl rfl rfl (g1 _ _) ?_;rintro _ _ ⟨rfl,rfl⟩;refine⟨_,_,rfl,rfl,?_⟩)|apply Cw)
              refine C0 [.q [0],.f [3],.h false 1,.h true 2,.h true 4,.q [5],.h true 6] [] Ac Ac Ac Ac ?_
              repeat' (first|apply Cv|refine Ct 0 Cr A7 ?_|refine Ct 3 Cr Af ?_|refine C5 ?_|refine Dd rfl ?_|refine Fq rfl ?_|refine Df rfl rfl rfl rfl rfl rfl Aa rfl Aa Aa ?_|(refine Ev rfl rfl rfl rfl rfl rfl rfl rfl (Dy 1 32) (by rintro _ _ ⟨b3,b4,rfl,rfl⟩;exact⟨_,rfl⟩) ?_;rintro _ _ ⟨b3,b4,rfl,rfl⟩;refine⟨_,_,rfl,rfl,?_⟩)|(refine EL rfl rfl rfl rfl rfl rfl rfl rfl (g3 _ _) ?_;rintro _ _ ⟨rfl,rfl⟩;refine⟨_,_,rfl,rfl,?_⟩)|(refine EL rfl rfl rfl rfl rfl rfl rfl rfl (g4 _ _ _) ?_;rintro _ _ ⟨K2,hM,mb,mc,mv,rfl,osM,hPM,hy4,pZ,rfl⟩;refine⟨_,_,rfl,rfl,?_⟩)|apply Cw)
              refine De Ac Ac rfl ?_
              repeat' (first|refine CW rfl rfl rfl (Ek rfl rfl rfl rfl rfl) ?_|apply Cv|refine CO 2 Cr Al Ab ?_|refine Ct 3 Cr AE ?_|refine Ct 4 Cr (CE rfl rfl rfl rfl rfl (hny x4)) ?_|refine Ct 5 Cr Ak ?_|refine CN ?_|refine Cu ?_|apply Cw|refine Cy ?_|apply Cz)
              exact EK [K,hC,K2,hM] (CD (CR rfl rfl rfl rfl)) ⟨K,hC,K2,hM,Du,cc,mb,mc,cv,mv,rfl,Ge,hP,osM,hPM,by dsimp only;omega,by dsimp only;omega,rfl⟩
            · rw [if_neg h5];refine CM Tryz.func96 rfl (Nat.le_of_ble_eq_true rfl) fun F=> ?_
              repeat' (first|apply Cv|refine C2 (fun β=> ?_)|refine CT (fun β=> ?_)|refine Cu ?_|apply Cw)
              refine De Ac Ac rfl ?_
              repeat' (first|refine CW rfl rfl rfl (Ek rfl rfl rfl rfl rfl) ?_|refine CW rfl rfl rfl (EI rfl rfl rfl Ab Ab) ?_|refine JU rfl rfl rfl (GC rfl rfl rfl) (by simpa using hp) ?_|apply Cv|refine Ct 0 Cr A4 ?_|refine CO 2 Cr AB Ab ?_|refine Ct 3 Cr Af ?_|refine Ct 4 Cr (CE rfl rfl rfl rfl rfl (hny 0)) ?_|refine Ct 5 Cr Ak ?_|refine CN ?_|refine Cu ?_|apply Cw)
              refine C0 [.q [0],.an 3,.h false 1,.h true 2,.rv 3,.h true 4] [] Ac Ac Ac Ac ?_
              repeat' (first|apply Cv|refine Ct 0 Cr A7 ?_|refine Ct 3 Cr Af ?_|(refine gk 4 rfl ?_;(refine CK rfl rfl rfl rfl rfl rfl rfl rfl (g2 _ _) ?_;rintro _ _ ⟨K,hC,Du,cc,cv,rfl,Ge,hP,ar,LK,rfl⟩;refine⟨_,_,rfl,rfl,?_⟩))|refine CT (fun β=> ?_)|refine CN ?_|refine Cu ?_|refine C5 ?_|refine Dd rfl ?_|refine Dn rfl rfl AR ?_|refine DN rfl rfl rfl (fun β=> ?_)|refine Df rfl rfl rfl rfl rfl rfl Aa rfl Aa Aa ?_|(refine Ev rfl rfl rfl rfl rfl rfl rfl rfl (Dy 0 16) (by rintro _ _ ⟨b1,b2,rfl,rfl⟩;exact⟨_,rfl⟩) ?_;rintro _ _ ⟨b1,b2,rfl,rfl⟩;refine⟨_,_,rfl,rfl,?_⟩)|(refine EL rfl rfl rfl rfl rfl rfl rfl rfl (g1 _ _) ?_;rintro _ _ ⟨rfl,rfl⟩;refine⟨_,_,rfl,rfl,?_⟩)|apply Cw)
              refine C0 [.q [0],.f [3],.h false 1,.h true 2,.h true 4,.q [5],.h true 6] [] Ac Ac Ac Ac ?_
              repeat' (first|apply Cv|refine Ct 0 Cr A7 ?_|refine Ct 3 Cr Af ?_|refine C5 ?_|refine Dd rfl ?_|refine Fq rfl ?_|refine Df rfl rfl rfl rfl rfl rfl Aa rfl Aa Aa ?_|(refine Ev rfl rfl rfl rfl rfl rfl rfl rfl (Dy 1 32) (by rintro _ _ ⟨b3,b4,rfl,rfl⟩;exact⟨_,rfl⟩) ?_;rintro _ _ ⟨b3,b4,rfl,rfl⟩;refine⟨_,_,rfl,rfl,?_⟩)|(refine EL rfl rfl rfl rfl rfl rfl rfl rfl (g3 _ _) ?_;rintro _ _ ⟨rfl,rfl⟩;refine⟨_,_,rfl,rfl,?_⟩)|(refine EL rfl rfl rfl rfl rfl rfl rfl rfl (g4 _ _ _) ?_;rintro _ _ ⟨K2,hM,mb,mc,mv,rfl,osM,hPM,hy4,pZ,rfl⟩;refine⟨_,_,rfl,rfl,?_⟩)|apply Cw)
              refine C0 [.q [0,1,2,3,4,5,6,7,8,9,10],.h true 11] [] Ac Ac Ac Ac ?_
              repeat' (first|refine CW rfl rfl rfl (Ek rfl rfl rfl rfl rfl) ?_|refine CY 2 Cr Al Ab ?_|refine Ct 3 Cr Af ?_|refine Ct 5 Cr Ak ?_|refine Dd rfl ?_|(refine Md rfl rfl rfl rfl rfl rfl rfl rfl (XB x4) (fun h=>by cases h) (fun _=> .inl ⟨_,List.Perm.refl _⟩) ?_;rintro _ _ ⟨Ec,rfl,rfl⟩;refine .inr ⟨_,_,rfl,rfl,?_⟩;repeat (refine DF ?_))|apply Cw)
              exact Eb ⟨_,rfl,rfl⟩
  · rw [if_neg hp];by_cases hl3:3≤s.length
    · refine CM Tryz.func96 rfl (Nat.le_of_ble_eq_true rfl) fun F=> ?_
      repeat' (first|apply Cv|refine C2 (fun β=> ?_)|refine CT (fun β=> ?_)|refine Cu ?_|apply Cw)
      refine C0 [.q [0,1,2,3,4,5,6,7,8,9,10,11,12,13,14],.h true 15] [] Ac Ac Ac Ac ?_
      repeat' (first|refine CW rfl rfl rfl (Ek rfl rfl rfl rfl rfl) ?_|refine CW rfl rfl rfl (EI rfl rfl rfl Ab Ab) ?_|refine M0 rfl rfl rfl (GC rfl rfl rfl) (by simpa using hp) ?_|refine Ct 0 Cr A4 ?_|refine CO 2 Cr AB Ab ?_|refine Ct 3 Cr Af ?_|refine Ct 5 Cr Ak ?_|refine Dd rfl ?_|(refine Md rfl rfl rfl rfl rfl rfl rfl rfl (XB 0) (fun h=>by cases h) (fun _=> .inl ⟨_,List.Perm.refl _⟩) ?_;rintro _ _ ⟨Ec,rfl,rfl⟩;refine .inr ⟨_,_,rfl,rfl,?_⟩;repeat (refine DF ?_))|apply Cw)
      exact Eb ⟨_,rfl,rfl⟩
    · refine CM Tryz.func96 rfl (Nat.le_of_ble_eq_true rfl) fun F=> ?_
      repeat' (first|apply Cv|refine C2 (fun β=> ?_)|refine CT (fun β=> ?_)|refine Cu ?_|apply Cw)
      refine C0 [.q [0,1,2,3,4,5,6,7,8,9,10,11,12,13,14],.h true 15] [] Ac Ac Ac Ac ?_
      repeat' (first|refine CW rfl rfl rfl (Ek rfl rfl rfl rfl rfl) ?_|refine Ct 0 Cr Bf ?_|refine CG 2 Cs ?_|refine CY 2 Cr AB Ab ?_|refine Ct 3 Cr Af ?_|refine CG 3 Cs ?_|refine Ct 5 Cr Ak ?_|refine CG 5 Cs ?_|refine Dd rfl ?_|(refine Md rfl rfl rfl rfl rfl rfl rfl rfl (XB 0) (fun h=>by cases h) (fun _=> .inl ⟨_,List.Perm.refl _⟩) ?_;rintro _ _ ⟨Ec,rfl,rfl⟩;refine .inr ⟨_,_,rfl,rfl,?_⟩;repeat (refine DF ?_))|apply Cw)
      exact Eb ⟨_,rfl,rfl⟩
end Go.Proofs.YtcnmnmjmpocepaaGreatDoor.Cd
end
section
namespace Go.Proofs.YtcnmnmjmpocepaaGreatDoor.Cd
open Go.SL
theorem RU{own hs rest:List CA} [t:Dx own hs rest]:∀(X:List CA) w,Sat (own++X) w->Sat (hs++X) w:=
  fun X w s=>(s.perm (t.perm.append_right X)).sub (List.Sublist.append (List.sublist_append_left hs rest) (List.Sublist.refl X))
attribute [local irreducible] SL.T Dw DG DE DI Et D0
abbrev dZ:Value:= .agg ⟨[.slice none 0 0,.slice none 0 0]⟩
theorem dH(b2 b3:Nat):TD Tryz.prog 95 [ptr b2,ptr b3] [] .returning fun e m own=>m= .returning/\(e= .returned (.tuple #[])/\own= []):=by
  refine PH (v:= .nilIface) (fun LX cs hu=> .inr ⟨by simp [recoverD,hu],rfl,rfl⟩) Tryz.func95 rfl (Nat.le_of_ble_eq_true rfl) rfl rfl rfl rfl rfl rfl rfl rfl rfl rfl rfl (fun F=> ?_)
  repeat' (first|refine CW rfl rfl rfl (EV rfl rfl) ?_|apply Cv|refine Ct 0 Cr Ap ?_|refine Cu ?_|apply Cw|refine Cy ?_|refine CF ?_|apply CB)
  exact⟨rfl,_,[],Dt,fun _ _ s=>s,rfl,rfl⟩
theorem dI(b2 b3 RS:Nat)(c1 c2 c3:Value):TD Tryz.prog 95 [ptr b2,ptr b3] [CV b2 (.cells ⟨[c1,c2]⟩ 32 (0,0)),CV b3 (.cells ⟨[c3]⟩ 40 (0,0))] (.panicking [{v:=RK RS,recovered:=false}])
    fun e m own=>m= .panicking [{v:=RK RS,recovered:=true}]/\(e= .returned (.tuple #[])/\own= [CV b2 (.cells ⟨[.slice none 0 0,.slice none 0 0]⟩ 32 (0,0)),CV b3 (.cells ⟨[RK RS]⟩ 40 (0,0))]):=by
  refine PH (v:=RK RS) (fun LX cs hu=> .inl (by simp [recoverD,hu])) Tryz.func95 rfl (Nat.le_of_ble_eq_true rfl) rfl rfl rfl rfl rfl rfl rfl rfl rfl rfl rfl (fun F=> ?_)
  repeat' (first|refine CW rfl rfl rfl (E4 rfl rfl) ?_|refine CW rfl rfl rfl (Rw rfl rfl rfl) ?_|apply Cv|refine Ct 0 Cr AV ?_|refine CT (fun β=> ?_)|refine CN ?_|refine Cu ?_|apply Cw|refine Cy ?_|refine CH ?_|refine CF ?_|apply CB)
  refine C0 [.q [0],.r [1,2],.h true 3,.h true 4] [CV β (.cells ⟨[ptr RS]⟩ 180 (0,0))] Ac Ac Ac Ac ?_
  repeat' (first|refine CW rfl rfl rfl (Fb rfl rfl rfl) ?_|refine Ct 3 Cr AA ?_|refine Ct 5 Cr Aq ?_|refine C5 ?_|refine Dd rfl ?_|refine HW rfl ?_|refine Df rfl rfl rfl rfl rfl rfl Aa rfl Aa Aa ?_|apply Cw)
  exact⟨rfl,_,_,Dt,RU,rfl,rfl⟩
def DQ(r:Except Nat Im)(e:Ending)(o:List CA):Prop:=match r with
  | .ok x=>∃K v,o= [K]/\IU K x v/\e= .returned (.tuple ⟨[v,.nilIface]⟩)
  | .error q=>∃β,o= [Kv β (q:Int)]/\e= .returned (.tuple ⟨[dZ,RK β]⟩)
theorem X2(s:List UInt8)(hs:s.length≤9223372036854775807):
    SL.T Tryz.prog 57 [str s] [] fun e o=>match JN s with
      | .ok x=>∃K hC K2 hM Du cc mb mc cv mv,e= .returned (.tuple ⟨[.agg ⟨[.slice Du x.cls.length cc,.slice mb x.ms.length mc]⟩,.nilIface]⟩)/\OS hC Du x.cls.length cc 76 1 cv/\KI K x.cls cv/\OS hM mb x.ms.length mc 66 4 mv/\Uj K2 x.ms mv/\x.cls.length≤1000/\x.ms.length≤1000/\o= [K,hC,K2,hM]
      | .error q=>∃β,o= [Kv β (q:Int)]/\e= .returned (.tuple ⟨[dZ,RK β]⟩):=by
  have g:=fun E3=>Vu E3 s hs
  cases h:JN s with
  | ok x=>
    rw [h] at g
    refine PJ Tryz.func57 rfl (Nat.le_of_ble_eq_true rfl) fun F=> ?_
    repeat' (first|refine UH rfl rfl rfl rfl rfl rfl ?_|apply Cv|refine Ct 0 Cr Be ?_|(refine gk 4 rfl ?_;(refine CK rfl rfl rfl rfl rfl rfl rfl rfl (g _) ?_;rintro _ _ ⟨K,hC,K2,hM,Du,cc,mb,mc,cv,mv,rfl,Ge,hP,osM,hPM,VD,LK,rfl⟩;refine⟨_,_,rfl,rfl,?_⟩))|refine Ct 5 Cr Aq ?_|refine C2 (fun β=> ?_)|refine CT (fun β=> ?_)|refine CN ?_|refine Cu ?_|apply Cw|refine Cy ?_|apply Cz)
    refine Yq (dargs:= []) (hs:= []) Am rfl (dH _ _) ?_;rintro _ _ _ ⟨rfl,rfl,rfl⟩;simp only [List.nil_append];exact⟨⟨_,rfl⟩,rfl,_,[K,hC,K2,hM],CU (CR rfl rfl rfl rfl) (Gn rfl rfl rfl),RU,K,hC,K2,hM,Du,cc,mb,mc,cv,mv,rfl,Ge,hP,osM,hPM,VD,LK,rfl⟩
  | error q=>
    rw [h] at g
    refine PJ Tryz.func57 rfl (Nat.le_of_ble_eq_true rfl) fun F=> ?_
    repeat' (first|refine UH rfl rfl rfl rfl rfl rfl ?_|apply Cv|refine Ct 0 Cr Be ?_|(refine gk 4 rfl ?_;(refine Ft rfl rfl rfl rfl rfl rfl rfl rfl (g _) ?_;rintro _ _ ⟨Ec,rfl,rfl⟩;refine .inr ⟨_,rfl,?_⟩;repeat (refine DF ?_)))|refine Ct 5 Cr Aq ?_|refine C2 (fun β=> ?_)|refine CT (fun β=> ?_)|refine Cu ?_|apply Cw)
    simp only [List.cons_append,List.nil_append];refine Yq (dargs:= []) Am rfl (dI _ _ _ (.slice none 0 0) (.slice none 0 0) .nilIface) ?_;rintro _ _ _ ⟨rfl,rfl,rfl⟩;simp only [List.cons_append,List.nil_append];exact⟨⟨_,rfl⟩,rfl,_,[Kv Ec q],CU (CR rfl rfl rfl rfl) (Gn rfl rfl rfl),(fun X w s=>s.tail.tail),Ec,rfl,rfl⟩
theorem Um(s:List UInt8)(hs:s.length≤9223372036854775807):SL.T Tryz.prog 57 [str s] [] (DQ (JN s)):=by
  have h:=X2 s hs;unfold DQ;cases hd:JN s with
  |error q=>rw [hd] at h;exact h
  | ok x=>
    rw [hd] at h
    refine(Gw (R:=fun e A N=>A= []/\∃K hC K2 hM Du cc mb mc cv mv,e= .returned (.tuple ⟨[.agg ⟨[.slice Du x.cls.length cc,.slice mb x.ms.length mc]⟩,.nilIface]⟩)/\OS hC Du x.cls.length cc 76 1 cv/\KI K x.cls cv/\OS hM mb x.ms.length mc 66 4 mv/\Uj K2 x.ms mv/\x.cls.length≤1000/\x.ms.length≤1000/\N= [K,hC,K2,hM]) (T.mono h ?_)).mono ?_
    · rintro e o ⟨K,hC,K2,hM,Du,cc,mb,mc,cv,mv,h1,h2,h3,h4,h5,h6,h7,rfl⟩;exact⟨[],[K,hC,K2,hM],by simp,rfl,K,hC,K2,hM,Du,cc,mb,mc,cv,mv,h1,h2,h3,h4,h5,h6,h7,rfl⟩
    · rintro e o ⟨A,N,L,rfl,hL,rfl,K,hC,K2,hM,Du,cc,mb,mc,cv,mv,rfl,h2,h3,h4,h5,h6,h7,rfl⟩;refine⟨L,_,rfl,⟨Du,x.cls.length,cc,mb,x.ms.length,mc,rfl,⟨cv,h2.sl.mono (hL hC Am),by have:=h2.hlen;omega,rfl,by omega,fun i f hf=> ?_⟩,⟨mv,h4.sl.mono (hL hM Am),h4.hlen,rfl,by omega,fun i m hm=> ?_⟩,h2.hle,h4.hle⟩,rfl⟩
      · obtain⟨fb,fn,fc,g1,g2,g3,g4⟩:=h3.2 i f hf;exact⟨fb,fn,fc,g1,g2.mono (hL K Am),g3,by omega⟩
      · obtain⟨pb,pc,cb,iQ,g1,g2,g3,g4,g5,g6,g7,g8,g9⟩:=h5.2 i m hm;exact⟨pb,_,pc,cb,_,iQ,g1,g2,g3,g4,g5.mono (hL K2 Am),rfl,by omega,g7.mono (hL K2 Am),rfl,g8,by omega⟩
end Go.Proofs.YtcnmnmjmpocepaaGreatDoor.Cd
end
