
import Derived.Test.YtcnmnmjmpocepaaGreatDoorV00
import Derived.Test.YtcnmnmjmpocepaaGreatDoorV09
import Derived.Test.YtcnmnmjmpocepaaGreatDoorV37
set_option linter.unusedVariables false
set_option linter.unusedSimpArgs false
set_option linter.unusedSectionVars false
set_option maxRecDepth 100000
set_option maxHeartbeats 16000000
section
namespace Go.Proofs.YtcnmnmjmpocepaaGreatDoor.Cd
open Go.SL
abbrev rr(β:Nat)(s:List UInt8)(a:Nat)(bad:Int):CA:=CV β (.cells ⟨[str s,i64 (a:Int),i64 bad]⟩ 215 (0,0))
theorem dQ{n i b:Nat}(hn:n<256^i)(hb:b<256)(hi:i<8):IntKind.u64.wrap ((n:Int)+((b <<<(8*i):Nat):Int))=((n+256^i*b:Nat):Int):=by
  have e:b <<<(8*i)=256^i*b:=by rw [Nat.shiftLeft_eq,show 2^(8*i)=256^i by rw [Nat.pow_mul],Nat.mul_comm]
  rw [e,<-Int.natCast_add,Hm];have h1:256^i*b≤256^i*255:=Nat.mul_le_mul_left _ Ab;have:=LA hi;omega
attribute [local irreducible] SL.T Dw DG DE DI Et D0
theorem Xb(β:Nat)(s:List UInt8)(a q many:Nat)(least most:Int):SL.T Tryz.prog 125 [ptr β,i64 (many:Int),i64 least,i64 most] [rr β s a (q:Int)] fun e o=>e= .returned (i64 least)/\o= [rr β s a (q:Int)]:=by
  refine CM Tryz.func125 rfl (Nat.le_of_ble_eq_true rfl) fun F=> ?_
  repeat' (first|apply Cv|refine Ct 0 Cr Au ?_|refine Cu ?_|apply Cw|refine Cy ?_|refine CC ?_)
  refine C4 (fun _:Unit=> [(0,ptr β),(1,i64 (many:Int)),(2,i64 least),(3,i64 most),(9,.int .u64 0),(10,i64 0)])
    (fun _=> [rr β s a (q:Int)]) (fun _=>True) (fun _=>0) () (by repeat first|exact Sub.nil _|refine Sub.cons rfl ?_) trivial ?_
  rintro - -
  repeat' (first|apply Cv|refine Ct 0 Cr Az ?_|refine CG 0 Cs ?_|refine CG 2 Cs ?_|refine CO 2 Cr Ar Ab ?_|refine CY 2 Cr Aj Ab ?_|refine Ct 3 Cr Af ?_|refine Ct 5 Cr Ak ?_|refine CG 5 Cs ?_|refine Cu ?_|apply Cw|refine Cy ?_|refine CH ?_|refine CF ?_|apply Cz|refine C1 ?_|apply CB|refine CQ ?_)
  exact EK [rr β s a (q:Int)] (CD (Cx rfl)) ⟨rfl,rfl⟩
def P7(many:Nat)(least most n:Int):Bool:=decide (8≤many) ||wi n least most
theorem U7(β:Nat)(s:List UInt8)(a many:Nat)(least most:Int)(hs:s.length≤9223372036854775807)(ha:a≤s.length)(hm:many≤8):
    SL.T Tryz.prog 125 [ptr β,i64 (many:Int),i64 least,i64 most] [rr β s a (-1)] fun e o=>match num s many (P7 many least most) a with
      | .ok (n,b)=>e= .returned (i64 n)/\o= [rr β s b (-1)]
      | .error q=>e= .returned (i64 least)/\o= [rr β s a (q:Int)]/\q=a:=by
  refine CM Tryz.func125 rfl (Nat.le_of_ble_eq_true rfl) fun F=> ?_
  repeat' (first|apply Cv|refine Ct 0 Cr Au ?_|refine Cu ?_|apply Cw|refine Cy ?_|refine CC ?_)
  refine C4 (fun i:Nat=> [(0,ptr β),(1,i64 (many:Int)),(2,i64 least),(3,i64 most),(9,.int .u64 ((DK ((s.drop a).take i):Nat):Int)),(10,i64 (i:Int))])
    (fun _=> [rr β s a (-1)]) (fun i=>i≤many/\a+i≤s.length) (fun i=>many - i) 0 (by repeat first|exact Sub.nil _|refine Sub.cons rfl ?_) ⟨Nat.zero_le _,by omega⟩ ?_
  rintro i ⟨hi,hai⟩;by_cases LW:i<many
  · by_cases hl:a+i<s.length
    · obtain⟨b,hb⟩:∃b,s[a+i]?=some b:=⟨_,List.getElem?_eq_getElem Ab⟩;have OU:s[((a:Int)+(i:Int)).toNat]?=some b:=by rw [show((a:Int)+(i:Int)).toNat=a+i by omega];exact hb
      have Lf:=b.toNat_lt;have htk:(s.drop a).take (i+1)=(s.drop a).take i++ [b]:=by rw [List.take_add_one,List.getElem?_drop,hb];rfl
      have htl:((s.drop a).take i).length=i:=by rw [List.length_take,List.length_drop];omega
      have hN:=J2 ((s.drop a).take i);rw [htl] at hN
      have hstep:DK ((s.drop a).take (i+1))=DK ((s.drop a).take i)+256^i*b.toNat:=by rw [htk,Kf,htl]
      generalize DK ((s.drop a).take i)=N at*
      have hp:=LA (show i<8 by omega);have hsh:b.toNat <<<(8*i)<2^64:=by
        rw [Nat.shiftLeft_eq,show 2^(8*i)=256^i by rw [Nat.pow_mul],Nat.mul_comm];exact Nat.lt_of_lt_of_le (Nat.mul_lt_mul_of_pos_left (show b.toNat<256 by omega) (Nat.pow_pos Ah)) hp
      have hmul:Value.int .i64 (IntKind.i64.wrap (8*(i:Int)))=i64 ((8*i:Nat):Int):=by rw [Dz Ab Ab];simp
      have hcvb:Value.int .u64 (IntKind.u64.wrap ((b.toNat:Nat):Int))= .int .u64 ((b.toNat:Nat):Int):=by rw [Hm Ab]
      have hshl:Value.int .u64 (shl .u64 ((b.toNat:Nat):Int) ((8*i:Nat):Int))= .int .u64 ((b.toNat <<<(8*i):Nat):Int):=by rw [To,Nat.mod_eq_of_lt hsh]
      have hadd:Value.int .u64 (IntKind.u64.wrap ((N:Int)+((b.toNat <<<(8*i):Nat):Int)))= .int .u64 ((DK ((s.drop a).take (i+1)):Nat):Int):=by rw [dQ hN Ab Ab,hstep]
      clear hstep hN hp hsh htk htl hb
      repeat' (first|refine CW rfl rfl rfl ((Fu rfl rfl rfl).to hmul) ?_|refine CW rfl rfl rfl ((C8 rfl rfl).to hcvb) ?_|refine CW rfl rfl rfl ((Ng rfl rfl rfl Ab).to hshl) ?_|refine CW rfl rfl rfl ((Ie rfl rfl rfl).to hadd) ?_|refine CW rfl rfl rfl (Mu rfl rfl rfl Ab OU) ?_|refine CW rfl rfl rfl (Ek rfl rfl rfl rfl rfl) ?_|apply Cv|refine Ct 0 Cr Aw ?_|refine Ct 1 Cr Ao ?_|refine CO 2 Cr Ar Ab ?_|refine CY 2 Cr AB Ab ?_|refine Ct 3 Cr Af ?_|refine Ct 5 Cr Ak ?_|refine Cu ?_|refine De Ac Ac rfl ?_|apply Cw|refine Cy ?_|refine CH ?_|refine CF ?_|refine CC ?_|apply CB)
      exact⟨rfl,i+1,CX (by repeat first|exact Sub.nil _|refine Sub.cons rfl ?_),⟨by omega,by omega⟩,by omega⟩
    · have hg:num s many (P7 many least most) a= .error a:=by unfold num Je rd;rw [if_neg Ab]
      rw [hg]
      repeat' (first|refine CW rfl rfl rfl (Ek rfl rfl rfl rfl rfl) ?_|apply Cv|refine Ct 0 Cr Aw ?_|refine Ct 1 Cr Ao ?_|refine CO 2 Cr Ar Ab ?_|refine Ct 3 Cr Af ?_|refine Ct 5 Cr Ak ?_|refine CN ?_|refine Cu ?_|refine De Ac Ac rfl ?_|apply Cw|refine Cy ?_|refine CH ?_|refine CC ?_|apply Cz|apply CB|refine CQ ?_|refine C3 ?_)
      exact EK [rr β s a (a:Int)] (CD (Cx rfl)) ⟨rfl,rfl,rfl⟩
  · obtain rfl:many=i:=by omega
    have Kq:rd s a many=some (IntKind.i64.wrap (DK ((s.drop a).take many))):=by unfold rd;rw [if_pos hai]
    generalize hn:IntKind.i64.wrap (DK ((s.drop a).take many):Int)=n at*
    have hcv:Value.int .i64 (IntKind.i64.wrap (DK ((s.drop a).take many):Int))=i64 n:=by rw [hn]
    have hg:num s many (P7 many least most) a=if P7 many least most n then .ok (n,a+many) else .error a:=by
      unfold num Je;rw [Kq];cases h:P7 many least most n <;>simp [h]
    rw [hg];by_cases h8:8≤many
    · rw [if_pos (by simp [P7,h8])]
      repeat' (first|refine CW rfl rfl rfl ((C8 rfl rfl).to hcv) ?_|apply Cv|refine Ct 0 Cr Ay ?_|refine CG 0 Cs ?_|refine Ct 1 Cr Ao ?_|refine CG 2 Cs ?_|refine CO 2 Cr Ar Ab ?_|refine CY 2 Cr Ar Ab ?_|refine Ct 3 Cr Af ?_|refine Ct 5 Cr Ak ?_|refine CG 5 Cs ?_|refine CN ?_|refine Cu ?_|apply Cw|refine Cy ?_|refine CF ?_|apply Cz|refine C1 ?_|apply CB)
      refine Gj [rr β s (a+many) (-1)] (CD (Cx rfl)) (fun F w q=> ?_) ⟨rfl,rfl⟩;simp only [rr,Int.natCast_add];exact q
    · by_cases hw:least≤n/\n≤most
      · rw [if_pos (by simp [P7,wi,hw])];obtain⟨eh,iz⟩:=hw
        repeat' (first|refine CW rfl rfl rfl ((C8 rfl rfl).to hcv) ?_|apply Cv|refine Ct 0 Cr Ay ?_|refine Ct 1 Cr Ao ?_|refine CO 2 Cr BP Ab ?_|refine CY 2 Cr BP Ab ?_|refine Ct 3 Cr Af ?_|refine Ct 5 Cr Ak ?_|refine CN ?_|refine Cu ?_|apply Cw|refine Cy ?_|refine CF ?_|apply Cz|refine C1 ?_|apply CB)
        refine Gj [rr β s (a+many) (-1)] (CD (Cx rfl)) (fun F w q=> ?_) ⟨rfl,rfl⟩;simp only [rr,Int.natCast_add];exact q
      · rw [if_neg (by simp [P7,wi];omega)];rcases(by omega:n<least∨(least≤n/\most<n)) with hw|⟨eh,iz⟩
        · repeat' (first|refine CW rfl rfl rfl ((C8 rfl rfl).to hcv) ?_|apply Cv|refine Ct 0 Cr Aw ?_|refine CG 0 Cs ?_|refine CG 2 Cs ?_|refine CO 2 Cr Ar Ab ?_|refine CY 2 Cr Aj Ab ?_|refine Ct 3 Cr Af ?_|refine Ct 5 Cr Ak ?_|refine CG 5 Cs ?_|refine CN ?_|refine Cu ?_|apply Cw|refine Cy ?_|refine CH ?_|refine CF ?_|apply Cz|refine C1 ?_|refine CQ ?_)
          exact EK [rr β s a (a:Int)] (CD (Cx rfl)) ⟨rfl,rfl,rfl⟩
        · repeat' (first|refine CW rfl rfl rfl ((C8 rfl rfl).to hcv) ?_|apply Cv|refine Ct 0 Cr Ay ?_|refine CO 2 Cr BP Ab ?_|refine CY 2 Cr Aj Ab ?_|refine Ct 3 Cr Af ?_|refine Ct 5 Cr Ak ?_|refine CN ?_|refine Cu ?_|apply Cw|refine Cy ?_|refine CH ?_|refine CF ?_|apply Cz|refine C1 ?_|refine CQ ?_)
          exact EK [rr β s a (a:Int)] (CD (Cx rfl)) ⟨rfl,rfl,rfl⟩
end Go.Proofs.YtcnmnmjmpocepaaGreatDoor.Cd
end
section
namespace Go.Proofs.YtcnmnmjmpocepaaGreatDoor.Cd
open Go.SL
theorem W9(least most:Int):P7 1 least most=fun z=>wi z least most:=by funext z;simp [P7]
theorem nS(least most:Int):P7 2 least most=fun z=>wi z least most:=by funext z;simp [P7]
theorem lz(least most:Int):P7 8 least most=fun _=>true:=by funext z;simp [P7]
inductive Rs
  |DZ (a:Nat)
  |bad (a q:Nat)
def Rs.at:Rs->Nat| .DZ a=>a| .bad a _=>a
def Rs.bd:Rs->Int| .DZ _=> -1| .bad _ q=>(q:Int)
def Rs.ok:Rs->Bool| .DZ _=>true| .bad _ _=>false
theorem Rs.iR{r:Rs}(h:r.ok=true):r.bd= -1:=by cases r with|DZ a=>rfl|bad a q=>cases h
theorem Rs.iS{r:Rs}(h:r.ok=false):0≤r.bd:=by cases r with|DZ a=>cases h|bad a q=>exact Int.natCast_nonneg _
abbrev Zj(β:Nat)(s:List UInt8)(r:Rs):CA:=rr β s r.at r.bd
def EC(s:List UInt8)(many:Nat)(least most:Int):Rs->Int×Rs
  | .DZ a=>(match num s many (P7 many least most) a with| .ok (n,b)=>(n,.DZ b)| .error q=>(least,.bad a q))
  | .bad a q=>(least,.bad a q)
theorem TK{s:List UInt8}{many:Nat}{least most:Int}{r:Rs}(h:r.at≤s.length):(EC s many least most r).2.at≤s.length:=by
  cases r with
  |bad a q=>exact h
  | DZ a=>
    cases h1:num s many (P7 many least most) a with
    |ok p=>simp only [EC,h1];exact(GF (n:=p.1) (b:=p.2) h1).2.2
    |error q=>simp only [EC,h1];exact h
theorem fH{s:List UInt8}{many:Nat}{least most:Int}{r:Rs}(hm:many<8)(hl:least≤most):least≤(EC s many least most r).1/\(EC s many least most r).1≤most:=by
  cases r with
  |bad a q=>exact⟨Int.le_refl _,hl⟩
  | DZ a=>
    cases h1:num s many (P7 many least most) a with
    | ok p=>
      simp only [EC,h1];have:=(GF (n:=p.1) (b:=p.2) h1).1;have h8:¬8≤many:=by omega
      simpa [P7,wi,h8] using this
    |error q=>simp only [EC,h1];exact⟨Int.le_refl _,hl⟩
def Ha{α:Type}(f:Rs->α×Rs):Nat->Rs->List α×Rs
  |0,r=>([],r)
  |k+1,r=>((Ha f k r).1++ [(f (Ha f k r).2).1],(f (Ha f k r).2).2)
theorem Oe{α:Type}{f:Rs->α×Rs}{r:Rs}:∀k,(Ha f k r).1.length=k
  |0=>rfl
  |k+1=>by simp [Ha,Oe k]
theorem Vs{α:Type}{s:List UInt8}{f:Rs->α×Rs}{r:Rs}(hf:∀r,r.at≤s.length->(f r).2.at≤s.length)(h:r.at≤s.length):∀k,(Ha f k r).2.at≤s.length
  |0=>h
  |k+1=>hf _ (Vs hf h k)
def Hj(s:List UInt8)(n:Nat)(cl:Int):Rs->List Int×Rs:=Ha (EC s 1 0 cl) n
theorem Sh{s:List UInt8}{n:Nat}{cl:Int}{r:Rs}(h:r.at≤s.length):(Hj s n cl r).2.at≤s.length:=Vs (fun _ h=>TK h) h n
theorem Xn{s:List UInt8}{n:Nat}{cl:Int}{r:Rs}:(Hj s n cl r).1.length=n:=Oe n
attribute [local irreducible] SL.T Dw DG DE DI Et D0
theorem EJ(β:Nat)(s:List UInt8)(r:Rs)(many:Nat)(least most:Int)(hs:s.length≤9223372036854775807)(ha:r.at≤s.length)(hm:many≤8):
    SL.T Tryz.prog 125 [ptr β,i64 (many:Int),i64 least,i64 most] [Zj β s r] fun e o=>e= .returned (i64 (EC s many least most r).1)/\o= [Zj β s (EC s many least most r).2]:=by
  cases r with
  |bad a q=>exact Xb β s a q many least most
  | DZ a=>
    refine T.mono (U7 β s a many least most hs ha hm) fun e o h=> ?_
    cases h1:num s many (P7 many least most) a with
    |ok p=>rw [h1] at h;simp only [EC,h1];exact h
    |error q=>rw [h1] at h;simp only [EC,h1];exact⟨h.1,h.2.1⟩
structure SK where
  j:Nat
  x:Rs
  h:CA
  b:Option Addr
  c:Nat
theorem L2(n:Nat)(β:Nat)(s:List UInt8)(r:Rs)(cl:Int)(hs:s.length≤9223372036854775807)(ha:r.at≤s.length)(hn:n≤1000):
    SL.T Tryz.prog 126 [ptr β,i64 (n:Int),i64 cl] [Zj β s r] fun e o=>∃(h:CA) (base:Option Addr) (cap:Nat),e= .returned (.slice base n cap)/\OS h base n cap 79 1 ((Hj s n cl r).1.map i64)/\o= [h,Zj β s (Hj s n cl r).2]:=by
  refine CM Tryz.func126 rfl (Nat.le_of_ble_eq_true rfl) fun F=> ?_
  refine DH ?_
  repeat' (first|apply Cv|refine Ct 0 Cr Au ?_|refine Cu ?_|apply Cw|refine Cy ?_|refine CC ?_)
  refine C4 (fun t:SK=> [(0,ptr β),(1,i64 (n:Int)),(2,i64 cl),(7,.slice t.b t.j t.c),(8,i64 (t.j:Int))])
    (fun t=> [t.h,Zj β s t.x])
    (fun t=>t.j≤n/\t.x=(Hj s t.j cl r).2/\OS t.h t.b t.j t.c 79 1 ((Hj s t.j cl r).1.map i64))
    (fun t=>n - t.j) ⟨0,r,emp,none,0⟩ (by repeat first|exact Sub.nil _|refine Sub.cons rfl ?_) ⟨Nat.zero_le _,rfl,OS.nil⟩ ?_
  rintro⟨j,x,h,b,c⟩ ⟨hj,hx,os⟩;dsimp only at hj hx os ⊢
  by_cases FF:j<n
  · have hk:=EJ β s x 1 0 cl hs (by rw [hx];exact Sh ha) Ah
    repeat' (first|apply Cv|refine Ct 0 Cr Ag ?_|refine Ct 1 Cr Ao ?_|refine CO 2 Cr Aj Ab ?_|(refine gk 4 rfl ?_;(refine CK rfl rfl rfl rfl rfl rfl rfl rfl (hk) ?_;rintro _ _ ⟨rfl,rfl⟩;refine⟨_,_,rfl,rfl,?_⟩))|refine gk 4 rfl (EH rfl rfl rfl rfl rfl rfl rfl rfl rfl Ad Av Ah Av Ab Ab (fun h' b' c' HS OU=> ?_))|refine CP (fun b=> ?_)|refine Cu ?_|apply Cw|refine Cy ?_|refine CH ?_|refine CC ?_|apply CB)
    refine⟨rfl,⟨j+1,(EC s 1 0 cl x).2,h',b',c'⟩,CX (by repeat first|exact Sub.nil _|refine Sub.cons rfl ?_),⟨by dsimp only;omega,?_,?_⟩,by dsimp only;omega⟩
    · dsimp only;rw [hx];rfl
    · subst hx;dsimp only;simpa [Hj,Ha] using HS
  · obtain rfl:j=n:=by omega
    repeat' (first|apply Cv|refine Ct 0 Cr Ag ?_|refine CY 2 Cr Aj Ab ?_|refine Cu ?_|apply Cw|refine Cy ?_|refine CF ?_|apply Cz|refine C1 ?_)
    subst hx;exact EK [h,Zj β s (Hj s j cl r).2] (CD (Cx rfl)) ⟨h,b,c,rfl,os,rfl⟩
end Go.Proofs.YtcnmnmjmpocepaaGreatDoor.Cd
end
section
namespace Go.Proofs.YtcnmnmjmpocepaaGreatDoor.Cd
open Go.SL
def EE{α:Type}(f:Nat->Rs->α×Rs):Nat->Rs->List α×Rs
  |0,r=>([],r)
  |k+1,r=>if(EE f k r).2.ok=true then((EE f k r).1++ [(f k (EE f k r).2).1],(f k (EE f k r).2).2) else EE f k r
theorem OC{α:Type}{f:Nat->Rs->α×Rs}{r:Rs}{j:Nat}(h:(EE f j r).2.ok=false):∀ {n},j≤n->EE f n r=EE f j r:=by
  intro n;induction n with
  |zero=>intro hj;obtain rfl:j=0:=Ab;rfl
  | succ n ih=>
    intro hj;by_cases e:j=n+1
    · rw [e]
    · have:=ih Ab;simp [EE,this,h]
theorem NS{α:Type}{f:Nat->Rs->α×Rs}{r x:Rs}{j:Nat}{l:List α}(h:EE f j r=(l,x))(hx:x.ok=true):EE f (j+1) r=(l++ [(f j x).1],(f j x).2):=by
  simp only [EE,h,hx,if_true]
def L7(s:List UInt8)(r:Rs):Ins×Rs:=
  (⟨(EC s 1 0 255 r).1,(EC s 8 0 0 (EC s 1 0 255 r).2).1,(EC s 8 0 0 (EC s 8 0 0 (EC s 1 0 255 r).2).2).1⟩,(EC s 8 0 0 (EC s 8 0 0 (EC s 1 0 255 r).2).2).2)
def KB(s:List UInt8)(cl:Int)(r:Rs):List Int×Rs:=Hj s (EC s 1 0 8 r).1.toNat cl (EC s 1 0 8 r).2
def L4(s:List UInt8)(cl:Int)(i:Nat)(r:Rs):Me×Rs:=
  let np:=EC s 1 0 (if i=0 then 0 else 16) r
  let ps:=Hj s np.1.toNat cl np.2
  let lo:=EC s 1 ps.1.length 16 ps.2
  let st:=EC s 1 0 32 lo.2
  let mn:=EC s 2 1 256 st.2
  let cd:=EE (fun _=>L7 s) mn.1.toNat mn.2
  (⟨ps.1,lo.1,st.1,cd.1⟩,cd.2)
def Ke:Im:=⟨[],[]⟩
def Jk(s:List UInt8):Im×Int:=
  if s.take 3= [68,75,1] then
    let n:=EC s 1 0 16 (.DZ 3)
    let cls:=Ha (KB s n.1) n.1.toNat n.2
    let k:=EC s 1 1 32 cls.2
    let ms:=EE (L4 s n.1) k.1.toNat k.2
    match ms.2 with
    | .bad _ q=>(Ke,(q:Int))
    | .DZ a=>if a<s.length then(Ke,(a:Int)) else(⟨cls.1,ms.1⟩, -1)
  else(Ke,0)
theorem I8{s:List UInt8}{many:Nat}{least most:Nat}{r:Rs}(hm:many<8)(hl:least≤most)(ha:r.at≤s.length):∃(n:Nat) (x:Rs),EC s many least most r=((n:Int),x)/\least≤n/\n≤most/\x.at≤s.length:=by
  obtain⟨h1,h2⟩:=fH (s:=s) (r:=r) hm (show(least:Int)≤most by omega);obtain⟨n,hn⟩:=Int.eq_ofNat_of_zero_le (show 0≤(EC s many least most r).1 by omega);exact⟨n,(EC s many least most r).2,Prod.ext hn rfl,by omega,by omega,TK ha⟩
theorem P8{s:List UInt8}{many:Nat}{least most:Int}{r:Rs}(ha:r.at≤s.length):∃(n:Int) (x:Rs),EC s many least most r=(n,x)/\x.at≤s.length:=
  ⟨_,_,rfl,TK ha⟩
theorem Qn{s:List UInt8}{n:Nat}{cl:Int}{r:Rs}(ha:r.at≤s.length):∃(l:List Int) (x:Rs),Hj s n cl r=(l,x)/\l.length=n/\x.at≤s.length:=
  ⟨_,_,rfl,Xn,Sh ha⟩
theorem cJ{s:List UInt8}{r x1 x2 x3:Rs}{o a b:Int}(h1:EC s 1 0 255 r=(o,x1))(h2:EC s 8 0 0 x1=(a,x2))(h3:EC s 8 0 0 x2=(b,x3)):L7 s r=(⟨o,a,b⟩,x3):=by
  simp only [L7,h1,h2,h3]
theorem Z2{s:List UInt8}{cl:Int}{r x1:Rs}{n:Nat}(h1:EC s 1 0 8 r=((n:Int),x1)):KB s cl r=Hj s n cl x1:=by
  simp only [KB,h1,Int.toNat_natCast]
theorem cf{s:List UInt8}{cl:Int}{i:Nat}{r x1 x2 x3 x4 x5 x6:Rs}{np lo st mn:Nat}{ps:List Int}{cd:List Ins}(h1:EC s 1 0 (if i=0 then 0 else 16) r=((np:Int),x1))(h2:Hj s np cl x1=(ps,x2))(h3:EC s 1 ps.length 16 x2=((lo:Int),x3))
    (h4:EC s 1 0 32 x3=((st:Int),x4)) (h5:EC s 2 1 256 x4=((mn:Int),x5)) (h6:EE (fun _=>L7 s) mn x5=(cd,x6)):L4 s cl i r=(⟨ps,lo,st,cd⟩,x6):=by
  simp only [L4,h1,h2,h3,h4,h5,h6,Int.toNat_natCast]
theorem Ye{s:List UInt8}{n k:Nat}{x1 x2 x3 x4:Rs}{cls:List (List Int)}{ms:List Me}(h0:s.take 3= [68,75,1])(h1:EC s 1 0 16 (.DZ 3)=((n:Int),x1))(h2:Ha (KB s n) n x1=(cls,x2))(h3:EC s 1 1 32 x2=((k:Int),x3))(h4:EE (L4 s n) k x3=(ms,x4)):
    Jk s=match x4 with| .bad _ q=>(Ke,(q:Int))| .DZ a=>if a<s.length then(Ke,(a:Int)) else(⟨cls,ms⟩, -1):=by
  simp only [Jk,if_pos h0,h1,h2,h3,h4,Int.toNat_natCast];cases x4 <;>rfl
end Go.Proofs.YtcnmnmjmpocepaaGreatDoor.Cd
end
section
namespace Go.Proofs.YtcnmnmjmpocepaaGreatDoor.Cd
open Go.SL
attribute [local irreducible] SL.T Dw DG DE DI Et D0
abbrev WC:List Value:= [.slice none 0 0,.slice none 0 0]
structure su where
  j:Nat
  x:Rs
  h:CA
  b:Option Addr
  c:Nat
  K:CA
  cls:List (List Int)
  C9:List Value
theorem W2(s:List UInt8)(hs:s.length≤9223372036854775807)(hp:s.take 3≠ [68,75,1]):
    SL.T Tryz.prog 71 [str s] [] fun e o=>e= .returned (.tuple ⟨[.agg ⟨WC⟩,i64 0]⟩)/\o= []:=by
  by_cases hl3:3≤s.length
  · refine CM Tryz.func71 rfl (Nat.le_of_ble_eq_true rfl) fun F=> ?_
    repeat' (first|refine CW rfl rfl rfl (Ek rfl rfl rfl rfl rfl) ?_|refine CW rfl rfl rfl (EI rfl rfl rfl Ab Ab) ?_|refine JU rfl rfl rfl (P6 rfl rfl rfl) (by simpa using hp) ?_|apply Cv|refine Ct 0 Cr Az ?_|refine CY 2 Cr Aj Ab ?_|refine Ct 5 Cr Aq ?_|refine CT (fun β=> ?_)|refine CN ?_|refine Cu ?_|apply Cw|refine Cy ?_|refine CH ?_|apply Cz|refine CQ ?_)
    exact EK [] (CU (CR rfl rfl rfl rfl) (Cx rfl)) ⟨rfl,rfl⟩
  · refine CM Tryz.func71 rfl (Nat.le_of_ble_eq_true rfl) fun F=> ?_
    repeat' (first|refine CW rfl rfl rfl (Ek rfl rfl rfl rfl rfl) ?_|apply Cv|refine Ct 0 Cr Aw ?_|refine CG 0 Cs ?_|refine CG 2 Cs ?_|refine CO 2 Cr Aj Ab ?_|refine Ct 5 Cr Aq ?_|refine CG 5 Cs ?_|refine CT (fun β=> ?_)|refine CN ?_|refine Cu ?_|apply Cw|refine Cy ?_|refine CH ?_|apply Cz|refine CQ ?_)
    exact EK [] (CU (CR rfl rfl rfl rfl) (Cx rfl)) ⟨rfl,rfl⟩
end Go.Proofs.YtcnmnmjmpocepaaGreatDoor.Cd
end
