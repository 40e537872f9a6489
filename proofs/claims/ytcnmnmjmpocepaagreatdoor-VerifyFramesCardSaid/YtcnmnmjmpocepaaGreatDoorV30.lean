
import Derived.Test.YtcnmnmjmpocepaaGreatDoorV00
import Derived.Test.YtcnmnmjmpocepaaGreatDoorV09
import Derived.Test.YtcnmnmjmpocepaaGreatDoorV29
import Derived.Test.YtcnmnmjmpocepaaGreatDoorV23
import Derived.Test.YtcnmnmjmpocepaaGreatDoorV26
set_option linter.unusedVariables false
set_option linter.unusedSimpArgs false
set_option linter.unusedSectionVars false
set_option maxRecDepth 100000
set_option maxHeartbeats 16000000
namespace Go.Proofs.YtcnmnmjmpocepaaGreatDoor
open Go.SL
open Kd
def j3:Option (Int×Int×Int)->Value
  |none=> .agg ⟨[i64 0,i64 0,i64 0]⟩
  |some (c,m,a)=> .agg ⟨[i64 c,i64 m,i64 a]⟩
theorem RY {im:Im}{mi:Int}{nx:Nat->List Nat}{c a:Int}:∀ {l:List Nat} {σ:Fs} {b:Bool},Ez im mi nx σ l b= .error (c,a)->c=8∨c=9
  | [],σ,b,h=>by cases h
  | x :: l, σ,b,h=>by
    unfold Ez at h
    split at h
    · rename_i e he
      cases h
      unfold FN at he
      split at he
      · split at he
        · rename_i c' hc
          cases he
          exact NX hc
        · rename_i f hf
          have:∀(ts:List Nat) (σ:Fs) (b:Bool),Hb σ f ts b= .error (c,a)->c=8∨c=9:=by
            intro ts;induction ts with
            |nil=>intro σ b h;cases h
            | cons t ts ih=>
              intro σ b h;unfold Hb at h
              split at h
              · rename_i e1 he1
                cases h
                exact .inr (SS he1).1
              · exact ih _ _ h
          exact this _ _ _ he
      · cases he
    · exact RY h
theorem E8.nz{im:Im}{mi:Int}{nx:Nat->List Nat}{n:Nat}{σ:Fs}{r:Except Er Fs}(h:E8 im mi nx n σ r):∀c a,r= .error (c,a)->c=8∨c=9:=by
  induction h with
  |bad h=>intro c a e;cases e;exact RY h
  |done h=>intro c a e;cases e
  |more h _ ih=>exact ih
attribute [local irreducible] SL.T Dw DG DE DI Et D0
section
variable (K0:CA) (im:Im) (Du mb:Option Addr) (Dr DP mn mc:Nat)
theorem Nb(EP:FY K0 im.cls Du Dr)(Gq:Hd K0 im.ms mb mn)(DO:∀m∈im.ms,m.code.length≤1000000):
    SL.T Tryz.prog 13 [Gi Du Dr DP mb mn mc] [K0] fun e o=>∃K,o= [K]/\hle K0 K/\e= .returned (j3 (Ex im)):=by
  obtain⟨C9,z1,z2,z3,z4,z5⟩:=id Gq;refine CM Tryz.func13 rfl (Nat.le_of_ble_eq_true rfl) fun F=> ?_
  repeat' (first|apply Cv|refine Ct 0 Cr Au ?_|refine C2 (fun β=> ?_)|refine CT (fun β=> ?_)|refine Cu ?_|apply Cw|refine Cy ?_|refine CC ?_)
  obtain⟨Ei,rfl⟩:∃x,x=β:=⟨_,rfl⟩;obtain⟨eF,rfl⟩:∃x,x=β:=⟨_,rfl⟩;refine C4 (fun s:Nat×CA=> [(1,.pointer (some ⟨eF,0,none⟩)),(2,.pointer (some ⟨Ei,0,none⟩)),(3,i64 (s.1:Int))]) (fun s=> [s.2,CV eF (.cells ⟨[.slice Du Dr DP,.slice mb mn mc]⟩ 32 (0,0)),CV Ei (.cells ⟨[i64 0,i64 0,i64 0]⟩ 43 (0,0))])
    (fun s=>s.1≤mn/\hle K0 s.2/\∀j,j<s.1->GG im j=none) (fun s=>mn - s.1) (0,K0) (by repeat first|exact Sub.nil _|refine Sub.cons rfl ?_) ⟨Nat.zero_le _,hle.refl _,fun j hj=>absurd hj (Nat.not_lt_zero _)⟩ ?_
  rintro⟨i,K⟩ ⟨hi,lK,hbef⟩;dsimp only at hi lK hbef ⊢
  by_cases ES:i<mn
  · obtain⟨m,hm⟩:∃z,im.ms[i]?=some z:=⟨_,List.getElem?_eq_getElem Ab⟩;have FD:GG im i=IG im (i:Int) m:=by simp only [GG,hm]
    have hsmm:=DO m (List.mem_of_getElem? hm);obtain⟨pb,pn,pc,cb,cn,cc,g1,g2,g3,g4,g5,g6,g7,g8,g9,g10⟩:=z5 _ _ hm;haveI slM:=z1.mono lK;haveI slC:Sl K cb (Nd.CZ (Hy m.code)):=by rw [HQ];exact g8.mono lK
    have hkm:((i:Nat):Int).toNat*4<C9.length:=by simp;omega
    have hO:=Nd.W0 K (.slice pb pn pc) m.lo m.st cb cn cc (Hy m.code) (by rw [Fh];exact g9) Ab;by_cases hoff:0≤Nd.off (Hy m.code)
    · have e:Ex im=some (8,(i:Int),Nd.off (Hy m.code)):=H8 Ab hbef (by rw [FD];unfold IG;rw [if_pos hoff]);rw [e]
      repeat' (first|apply Cv|refine Ct 0 Cr Ag ?_|refine CO 2 Cr Ar Ab ?_|refine Ct 3 Cr AZ ?_|refine Ct 4 Cr Ae ?_|refine Ct 4 Cr (CE rfl rfl rfl rfl rfl (hO)) ?_|refine Ct 5 Cr Aq ?_|refine CN ?_|refine Cu ?_|apply Cw|refine Cy ?_|refine CH ?_|refine CC ?_|apply Cz|apply CB|refine CQ ?_|refine C3 ?_)
      exact CJ [K] (CD (CR rfl rfl rfl rfl)) ⟨K,rfl,lK,rfl⟩
    · have h0:0<m.code.length:=by have:=Pm (cs:=Hy m.code) Ab;rwa [Fh] at this
      have hrr:=Fz im (i:Int) m h0;have hnz:=hrr.nz;have Kq:=JI K im Du mb Dr DP mn mc (i:Int) (EP.mono lK) (Gq.mono lK) m Ab (by simpa using hm) m.code.length rfl h0 hsmm hrr;cases hV:He im (i:Int) m with
      | error e=>
        obtain⟨c,a⟩:=e;rw [hV] at Kq
        have hc:c≠0:=by rcases hnz c a hV with q|q <;>omega
        have e:Ex im=some (c,(i:Int),a):=H8 Ab hbef (by rw [FD];unfold IG;rw [if_neg hoff,hV]);rw [e]
        repeat' (first|apply Cv|refine Ct 0 Cr Ag ?_|refine CO 2 Cr AY Ab ?_|refine CY 2 Cr AB Ab ?_|refine Ct 3 Cr BB ?_|refine Ct 4 Cr Ae ?_|refine Ct 4 Cr (CE rfl rfl rfl rfl rfl (hO)) ?_|(refine gk 4 rfl ?_;(refine CK rfl rfl rfl rfl rfl rfl rfl rfl (Kq) ?_;rintro _ _ ⟨DA,fb,hb,rfl,HF',HH',K',rfl,lK'⟩;refine⟨_,_,rfl,rfl,?_⟩))|refine Ct 5 Cr Ak ?_|refine CN ?_|refine Cu ?_|apply Cw|refine Cy ?_|refine CH ?_|refine CF ?_|refine CC ?_|apply Cz|apply CB|refine CQ ?_|refine C3 ?_)
        exact CJ [K'] (CD (CR rfl rfl rfl rfl)) ⟨K',rfl,lK.trans lK',rfl⟩
      | ok σ=>
        rw [hV] at Kq
        repeat' (first|apply Cv|refine Ct 0 Cr Ag ?_|refine CO 2 Cr AY Ab ?_|refine CY 2 Cr (by first|exact IP rfl rfl rfl|exact Kb rfl rfl rfl) Ab ?_|refine Ct 3 Cr BB ?_|refine Ct 4 Cr Ae ?_|refine Ct 4 Cr (CE rfl rfl rfl rfl rfl (hO)) ?_|(refine gk 4 rfl ?_;(refine CK rfl rfl rfl rfl rfl rfl rfl rfl (Kq) ?_;rintro _ _ ⟨DA,fb,hb,rfl,HF',HH',K',cs',rfl,lK',a1,a2,a3⟩;refine⟨_,_,rfl,rfl,?_⟩))|refine Ct 5 Cr Ak ?_|refine Cu ?_|apply Cw|refine Cy ?_|refine CH ?_|refine CF ?_|refine CC ?_|apply CB)
        clear slM slC;haveI slM2:=z1.mono (lK.trans lK');haveI slC2:Sl K' cb (Nd.CZ (Hy m.code)):=by rw [HQ];exact g8.mono (lK.trans lK')
        have hG:=Nd.Zo K' (.slice pb pn pc) m.lo m.st cb cn cc (Hy m.code) (by rw [Fh];exact g9) Ab;by_cases hwr:0≤Nd.MW (Hy m.code)
        · have e:Ex im=some (10,(i:Int),Nd.MW (Hy m.code)):=H8 Ab hbef (by rw [FD];unfold IG;rw [if_neg hoff,hV];exact if_pos hwr);rw [e]
          repeat' (first|apply Cv|refine Ct 0 Cr Ap ?_|refine CO 2 Cr AB Ab ?_|refine Ct 3 Cr AZ ?_|(refine gk 4 rfl ?_;(refine CK rfl rfl rfl rfl rfl rfl rfl rfl (hG) ?_;rintro _ _ ⟨N,rfl,KG,hSG,sb,kb,vs,rfl,rfl, -, -, -⟩;refine⟨_,_,rfl,rfl,?_⟩))|refine Ct 5 Cr Aq ?_|refine CT (fun β=> ?_)|refine CN ?_|refine Cu ?_|apply Cw|refine Cy ?_|refine CH ?_|apply Cz|refine CQ ?_|refine C3 ?_)
          exact CJ [K'] (CD (CR rfl rfl rfl rfl)) ⟨K',rfl,lK.trans lK',rfl⟩
        · have e:GG im i=none:=by rw [FD];unfold IG;rw [if_neg hoff,hV];exact if_neg hwr
          repeat' (first|apply Cv|refine Ct 0 Cr Ag ?_|refine Ct 1 Cr Ao ?_|refine CY 2 Cr AB Ab ?_|refine Ct 3 Cr AZ ?_|(refine gk 4 rfl ?_;(refine CK rfl rfl rfl rfl rfl rfl rfl rfl (hG) ?_;rintro _ _ ⟨N,rfl,KG,hSG,sb,kb,vs,rfl,rfl, -, -, -⟩;refine⟨_,_,rfl,rfl,?_⟩))|refine CT (fun β=> ?_)|refine CN ?_|refine Cu ?_|apply Cw|refine Cy ?_|refine CF ?_|apply CB)
          refine⟨rfl,(i+1,K'),CX (by repeat first|exact Sub.nil _|refine Sub.cons rfl ?_),⟨ES,lK.trans lK',fun j hj=> ?_⟩,by dsimp only;omega⟩;by_cases ej:j=i
          · rw [ej];exact e
          · exact hbef j (by dsimp only at hj;omega)
  · obtain rfl:i=mn:=by omega
    have e:Ex im=none:=Ow (by rw [z3];exact hbef);rw [e]
    repeat' (first|apply Cv|refine Ct 0 Cr Ap ?_|refine CY 2 Cr Aj Ab ?_|refine Ct 3 Cr Af ?_|refine Ct 4 Cr Ae ?_|refine Ct 5 Cr Aq ?_|refine CN ?_|refine Cu ?_|apply Cw|refine Cy ?_|refine CF ?_|apply Cz|refine C1 ?_)
    exact CJ [K] (CD (CR rfl rfl rfl rfl)) ⟨K,rfl,lK,rfl⟩
end
end Go.Proofs.YtcnmnmjmpocepaaGreatDoor
