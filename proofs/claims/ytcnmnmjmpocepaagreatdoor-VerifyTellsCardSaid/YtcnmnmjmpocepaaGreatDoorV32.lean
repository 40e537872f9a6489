
import Derived.Test.YtcnmnmjmpocepaaGreatDoorV00
import Derived.Test.YtcnmnmjmpocepaaGreatDoorV09
import Derived.Test.YtcnmnmjmpocepaaGreatDoorV31
set_option linter.unusedVariables false
set_option linter.unusedSimpArgs false
set_option linter.unusedSectionVars false
set_option maxRecDepth 100000
set_option maxHeartbeats 16000000
section
namespace Go.Proofs.YtcnmnmjmpocepaaGreatDoor
open Go.SL
open Kd
theorem dO{b:List Nat}(h:∀x∈b,x≤255)(i:Nat):Dj b i≤255:=by
  unfold Dj;rw [List.getD_eq_getElem?_getD];cases e:b[i]? with
  |none=>simp
  |some x=>simpa using h x (List.mem_of_getElem? e)
def ER(b:List Nat)(own:Nat)(rec:Mk->Mk)(n:Nat)(s:Mk):Mk:=
  match n%12 with
  |0=>s.nx.put [(0,(Dj b s.at_%5:Nat)),(3,2)]
  |1=>s.put [(2,2),(2,3),(4,0),(3,3)]
  |2=>s.put [(2,3),(19,0)]
  |3|4=>Ea (Dj b s.at_) s.nx
  |5=>Gz (Dj b s.at_) s.nx
  |6=>Gv rec 0 s
  |7=>Gv rec 1 s
  |8=>Gv rec 4 s
  |9=>LZ rec s
  |10=>Jr b rec s
  |_=>G6 own (17+(n/12%2:Nat)) s
theorem iY(b:List Nat)(own:Nat)(rec:Mk->Mk)(low:Bool)(s:Mk):JS b own rec low s=ER b own rec (if low then Dj b s.at_%6 else Dj b s.at_) s.nx:=rfl
theorem R4(p:IZ)(s:Mk)(at_ loops:Nat)(kb:Option Addr)(kn kc:Nat)(HC:CA)(Ji ac an:Nat)(cs:List Value)(l:List (Int×Int))(h1:s.at_=at_)(h2:s.loops=loops)(h3:s.code.length=kn)(Oi:cs=Ju l)(j0:an=2*l.length)(Ge:OS HC kb kn kc 24 3 (CZ s.code))(DO:kn+l.length≤1000000):
    SL.T Tryz.prog 58 [pM p,.slice (some ⟨Ji,0,none⟩) an ac] [mC p at_ loops kb kn kc,HC,CV Ji (.cells ⟨cs⟩ 3 (0,0))] fun e o=>∃HC' kb' kc',o= [mB p (s.put l) kb' kc',HC',CV Ji (.cells ⟨cs⟩ 3 (0,0))]/\e= .returned (.tuple #[])/\OS HC' kb' (s.put l).code.length kc' 24 3 (CZ (s.put l).code):=by
  subst h1 h2 h3;exact DT p s kb kc HC Ji ac an cs l Oi j0 Ge DO
structure SB where
  i:Nat
  s:Mk
  kb:Option Addr
  kc:Nat
  HC:CA
  HL:CA
attribute [local irreducible] SL.T Dw DG DE DI Et D0
theorem QS(p:IZ)(J:CA)(bs:List Nat)(L A X:Nat)(d:Int)(rec:Mk->Mk)(low:Bool)(ZM:low=true↔d≤0)(T0:d≤100)(hB:low=false->PA p J L A X (d - 1) rec)(hL:L≤1000)(rX:153≤L)(hA:A≤10000)(hX:X≤900000)
    [Rj:Sl J p.bb (bs.map Rc)] (Lf:bs.length=p.bn) (Ma:p.bn≤1000000) (hb:∀x∈bs,x≤255) (cU:p.own≤2)
    (s0:Mk) (Wt:s0.code.length≤L+7) (om:s0.locked.length=5) (rS:s0.at_+3*(A+2)+3≤X) (oj:s0.loops≤3):
    MT p J 59 [i64 d] s0 (PT (JS bs p.own rec low) (Dj bs s0.at_%3+1) s0.nx):=by
  intro Wz Ra Q9 sw ly Il;have hbt:=fun i=>dO hb i
  have hfit:∀s:Mk,s.code.length<150->Fit (L+7) (A+2) s (JS bs p.own rec low s):=fun s hs=>KU low (fun h=>(hB h).fits) rX hs
  have e1:((Dj bs s0.at_%3:Nat):Int)+1=((Dj bs s0.at_%3+1:Nat):Int):=by omega
  refine CM Tryz.func59 rfl (Nat.le_of_ble_eq_true rfl) fun F=> ?_
  repeat' (first|refine CW rfl rfl rfl (D1 (b:=3) rfl rfl rfl Ah) ?_|apply Cv|refine Ct 0 Cr Ag ?_|refine Ct 1 Cr Ao ?_|(refine gk 4 rfl ?_;(refine CK rfl rfl rfl rfl rfl rfl rfl rfl (Xc p J bs s0 Ra Q9 Lf Ab Ma hb) ?_;rintro _ _ ⟨rfl,rfl⟩;refine⟨_,_,rfl,rfl,?_⟩))|refine Cu ?_|apply Cw|refine Cy ?_|refine CC ?_)
  rw [e1];obtain⟨fin,E7⟩:∃z,z=PT (JS bs p.own rec low) (Dj bs s0.at_%3+1) s0.nx:=⟨_,rfl⟩;rw [<-E7];refine C4 (fun t:SB=> [(0,pM p),(1,i64 d),(4,i64 (t.i:Int))]) (fun t=> [mB p t.s t.kb t.kc,t.HC,t.HL,J])
    (fun t=>t.i≤3/\PT (JS bs p.own rec low) t.i t.s=fin/\OS t.HC t.kb t.s.code.length t.kc 24 3 (CZ t.s.code)/\OS t.HL p.lb 5 5 4 1 (RA t.s.locked)/\t.s.code.length≤L+7/\t.s.locked.length=5/\t.s.loops≤3/\t.s.at_+t.i*(A+2)≤s0.at_+1+3*(A+2)) (fun t=>t.i)
    ⟨Dj bs s0.at_%3+1,s0.nx,Ra,Q9,Wz,sw⟩ (by repeat first|exact Sub.nil _|refine Sub.cons rfl ?_) ⟨by dsimp only;omega,E7.symm,ly,Il,Wt,om,oj,?_⟩ ?_
  · dsimp only [Mk.nx];have:(Dj bs s0.at_%3+1)≤3:=by omega
    have:=Nat.mul_le_mul_right (A+2) this;omega
  clear E7 e1 ly Il;rintro⟨i,s,kb,kc,HC,HL⟩ ⟨hi,E7,Ge,IA,hs,Ig,MC,FD⟩;dsimp only at hi E7 Ge IA hs Ig MC FD ⊢
  cases i with
  | zero=>
    have e:s=fin:=E7;subst e
    repeat' (first|apply Cv|refine Ct 0 Cr Bf ?_|refine CG 0 Cs ?_|refine CG 2 Cs ?_|refine CY 2 Cr AQ Ab ?_|refine CG 3 Cs ?_|refine CG 4 Cs ?_|refine CG 5 Cs ?_|refine Cu ?_|apply Cw|refine Cy ?_|refine CF ?_|refine C1 ?_|refine Gf ?_|refine Gh ?_)
    exact HR [mB p s kb kc,HC,HL,J] Dt ⟨HC,kb,kc,HL,rfl,rfl,Ge,IA⟩
  | succ i=>
    unfold PT at E7
    by_cases h150:s.code.length<150
    · rw [if_pos h150] at E7
      have hF:=hfit s h150;have hFl:=hF.len;have hFk:=hF.lk;have hFo:=hF.loops;have hFa:=hF.at_;have hmul:(i+1)*(A+2)=i*(A+2)+(A+2):=Nat.succ_mul _ _;have e9:((i+1:Nat):Int) - 1=((i:Nat):Int):=by omega
      rw [iY] at E7 hFl hFk hFo hFa
      have YA:=hbt s.at_;have Ps:=hbt (s.at_+1);have hat1:s.at_+(A+2)≤X:=by omega
      clear hF;cases low with
      | true=>
        have c8:d≤0:=ZM.1 rfl;rw [if_pos rfl] at E7 hFl hFk hFo hFa
        repeat' ((fail_if_success (refine Ep 8 ?_));(first|refine CW rfl rfl rfl (D1 (b:=12) rfl rfl rfl Ah) ?_|refine CW rfl rfl rfl (D1 (b:=6) rfl rfl rfl Ah) ?_|apply Cv|refine Ct 0 Cr Aw ?_|refine CO 2 Cr Cj Ab ?_|refine Ct 3 Cr Af ?_|refine Ct 4 Cr Ae ?_|(refine gk 4 rfl ?_;(refine CK rfl rfl rfl rfl rfl rfl rfl rfl (ID p J bs s.at_ s.loops kb s.code.length kc Lf Ab Ma hb) ?_;rintro _ _ ⟨rfl,rfl⟩;refine⟨_,_,rfl,rfl,?_⟩))|refine Ct 5 Cr Ak ?_|refine Cu ?_|apply Cw|refine Cy ?_|refine CH ?_|refine CC ?_|apply CB))
        obtain⟨n,hn⟩:∃n,n=(Dj bs s.at_%6):=⟨_,rfl⟩;have hn255:n≤255:=by omega
        rw [<-hn] at E7 hFl hFk hFo hFa
        rw [<-hn];have hn6:n<6:=by omega
        rcases(show n%12=0∨n%12=1∨n%12=2∨n%12=3∨n%12=4∨n%12=5 by omega) with h|h|h|h|h|h
        · have e:ER bs p.own rec n s.nx=(s.nx.nx.put [(0,(((Dj bs (s.at_+1))%5:Nat):Int)),(3,2)]):=by simp only [ER,h] <;>rfl
          rw [e] at E7 hFl hFk hFo hFa
          repeat' (first|refine CW rfl rfl rfl (D1 (b:=5) rfl rfl rfl Ah) ?_|apply Cv|refine Ct 0 Cr Ag ?_|refine Ct 1 Cr AF ?_|refine CO 2 Cr Al Ab ?_|(refine gk 4 rfl ?_;(refine CK rfl rfl rfl rfl rfl rfl rfl rfl (ID p J bs (s.at_+1) s.loops kb s.code.length kc Lf Ab Ma hb) ?_;rintro _ _ ⟨rfl,rfl⟩;refine⟨_,_,rfl,rfl,?_⟩))|(refine gk 4 rfl ?_;(refine CK rfl rfl rfl rfl rfl rfl rfl rfl (R4 p s.nx.nx (s.at_+1+1) s.loops kb s.code.length kc HC _ _ _ [i64 0,i64 (((Dj bs (s.at_+1))%5:Nat):Int),i64 3,i64 2] [(0,(((Dj bs (s.at_+1))%5:Nat):Int)),(3,2)] rfl rfl rfl rfl rfl Ge AT) ?_;rintro _ _ ⟨HC1,FH,FG,rfl,rfl,E2⟩;refine⟨_,_,rfl,rfl,?_⟩))|refine CP (fun b=> ?_)|refine Cu ?_|apply Cw|refine Cy ?_|refine CH ?_)
          rw [e9];exact⟨rfl,⟨i,(s.nx.nx.put [(0,(((Dj bs (s.at_+1))%5:Nat):Int)),(3,2)]),FH,FG,HC1,HL⟩,CX (by repeat first|exact Sub.nil _|refine Sub.cons rfl ?_),⟨by dsimp only;omega,E7,E2,IA,hFl,by dsimp only;rw [hFk];exact Ig,by dsimp only;omega,by dsimp only;omega⟩,by dsimp only;omega⟩
        · have e:ER bs p.own rec n s.nx=(s.nx.put [(2,2),(2,3),(4,0),(3,3)]):=by simp only [ER,h] <;>rfl
          rw [e] at E7 hFl hFk hFo hFa
          repeat' (first|apply Cv|refine Ct 0 Cr Ag ?_|refine Ct 1 Cr AF ?_|refine CO 2 Cr Al Ab ?_|refine CY 2 Cr Al Ab ?_|(refine gk 4 rfl ?_;(refine CK rfl rfl rfl rfl rfl rfl rfl rfl (R4 p s.nx (s.at_+1) s.loops kb s.code.length kc HC _ _ _ [i64 2,i64 2,i64 2,i64 3,i64 4,i64 0,i64 3,i64 3] [(2,2),(2,3),(4,0),(3,3)] rfl rfl rfl rfl rfl Ge AT) ?_;rintro _ _ ⟨HC1,FH,FG,rfl,rfl,E2⟩;refine⟨_,_,rfl,rfl,?_⟩))|refine CP (fun b=> ?_)|refine Cu ?_|apply Cw|refine Cy ?_|refine CH ?_|refine CF ?_)
          rw [e9];exact⟨rfl,⟨i,(s.nx.put [(2,2),(2,3),(4,0),(3,3)]),FH,FG,HC1,HL⟩,CX (by repeat first|exact Sub.nil _|refine Sub.cons rfl ?_),⟨by dsimp only;omega,E7,E2,IA,hFl,by dsimp only;rw [hFk];exact Ig,by dsimp only;omega,by dsimp only;omega⟩,by dsimp only;omega⟩
        · have e:ER bs p.own rec n s.nx=(s.nx.put [(2,3),(19,0)]):=by simp only [ER,h] <;>rfl
          rw [e] at E7 hFl hFk hFo hFa
          repeat' (first|apply Cv|refine Ct 0 Cr Ag ?_|refine Ct 1 Cr AF ?_|refine CO 2 Cr Al Ab ?_|refine CY 2 Cr Al Ab ?_|(refine gk 4 rfl ?_;(refine CK rfl rfl rfl rfl rfl rfl rfl rfl (R4 p s.nx (s.at_+1) s.loops kb s.code.length kc HC _ _ _ [i64 2,i64 3,i64 19,i64 0] [(2,3),(19,0)] rfl rfl rfl rfl rfl Ge AT) ?_;rintro _ _ ⟨HC1,FH,FG,rfl,rfl,E2⟩;refine⟨_,_,rfl,rfl,?_⟩))|refine CP (fun b=> ?_)|refine Cu ?_|apply Cw|refine Cy ?_|refine CH ?_|refine CF ?_)
          rw [e9];exact⟨rfl,⟨i,(s.nx.put [(2,3),(19,0)]),FH,FG,HC1,HL⟩,CX (by repeat first|exact Sub.nil _|refine Sub.cons rfl ?_),⟨by dsimp only;omega,E7,E2,IA,hFl,by dsimp only;rw [hFk];exact Ig,by dsimp only;omega,by dsimp only;omega⟩,by dsimp only;omega⟩
        · have e:ER bs p.own rec n s.nx=(Ea (Dj bs (s.at_+1)) s.nx.nx):=by simp only [ER,h] <;>rfl
          rw [e] at E7 hFl hFk hFo hFa
          have hq:SL.T Tryz.prog 98 [pM p,i64 ((Dj bs (s.at_+1)):Int)] [mC p (s.at_+1+1) s.loops kb s.code.length kc,HC,HL,J] (MQ p J (Ea (Dj bs (s.at_+1)) s.nx.nx)):=IQ p J s.nx.nx (by show s.code.length≤_;omega) (Dj bs (s.at_+1)) Ps HC kb kc HL Ge IA
          repeat' (first|apply Cv|refine Ct 0 Cr Ag ?_|refine Ct 1 Cr AF ?_|refine CO 2 Cr Al Ab ?_|refine CY 2 Cr Al Ab ?_|(refine gk 4 rfl ?_;(refine CK rfl rfl rfl rfl rfl rfl rfl rfl (ID p J bs (s.at_+1) s.loops kb s.code.length kc Lf Ab Ma hb) ?_;rintro _ _ ⟨rfl,rfl⟩;refine⟨_,_,rfl,rfl,?_⟩))|(refine gk 4 rfl ?_;(refine CK rfl rfl rfl rfl rfl rfl rfl rfl (hq) ?_;rintro _ _ ⟨HCL,kbL,kcL,HLL,rfl,rfl,Il,osLL⟩;refine⟨_,_,rfl,rfl,?_⟩))|refine Cu ?_|apply Cw|refine Cy ?_|refine CH ?_|refine CF ?_|apply CB)
          rw [e9];exact⟨rfl,⟨i,(Ea (Dj bs (s.at_+1)) s.nx.nx),kbL,kcL,HCL,HLL⟩,CX (by repeat first|exact Sub.nil _|refine Sub.cons rfl ?_),⟨by dsimp only;omega,E7,Il,osLL,hFl,by dsimp only;rw [hFk];exact Ig,by dsimp only;omega,by dsimp only;omega⟩,by dsimp only;omega⟩
        · have e:ER bs p.own rec n s.nx=(Ea (Dj bs (s.at_+1)) s.nx.nx):=by simp only [ER,h] <;>rfl
          rw [e] at E7 hFl hFk hFo hFa
          have hq:SL.T Tryz.prog 98 [pM p,i64 ((Dj bs (s.at_+1)):Int)] [mC p (s.at_+1+1) s.loops kb s.code.length kc,HC,HL,J] (MQ p J (Ea (Dj bs (s.at_+1)) s.nx.nx)):=IQ p J s.nx.nx (by show s.code.length≤_;omega) (Dj bs (s.at_+1)) Ps HC kb kc HL Ge IA
          repeat' (first|apply Cv|refine Ct 0 Cr Ag ?_|refine Ct 1 Cr AF ?_|refine CO 2 Cr Al Ab ?_|refine CY 2 Cr Al Ab ?_|(refine gk 4 rfl ?_;(refine CK rfl rfl rfl rfl rfl rfl rfl rfl (ID p J bs (s.at_+1) s.loops kb s.code.length kc Lf Ab Ma hb) ?_;rintro _ _ ⟨rfl,rfl⟩;refine⟨_,_,rfl,rfl,?_⟩))|(refine gk 4 rfl ?_;(refine CK rfl rfl rfl rfl rfl rfl rfl rfl (hq) ?_;rintro _ _ ⟨HCL,kbL,kcL,HLL,rfl,rfl,Il,osLL⟩;refine⟨_,_,rfl,rfl,?_⟩))|refine Cu ?_|apply Cw|refine Cy ?_|refine CH ?_|refine CF ?_)
          rw [e9];exact⟨rfl,⟨i,(Ea (Dj bs (s.at_+1)) s.nx.nx),kbL,kcL,HCL,HLL⟩,CX (by repeat first|exact Sub.nil _|refine Sub.cons rfl ?_),⟨by dsimp only;omega,E7,Il,osLL,hFl,by dsimp only;rw [hFk];exact Ig,by dsimp only;omega,by dsimp only;omega⟩,by dsimp only;omega⟩
        · have e:ER bs p.own rec n s.nx=(Gz (Dj bs (s.at_+1)) s.nx.nx):=by simp only [ER,h] <;>rfl
          rw [e] at E7 hFl hFk hFo hFa
          have hq:SL.T Tryz.prog 99 [pM p,i64 ((Dj bs (s.at_+1)):Int)] [mC p (s.at_+1+1) s.loops kb s.code.length kc,HC,HL,J] (MQ p J (Gz (Dj bs (s.at_+1)) s.nx.nx)):=OD p J s.nx.nx (by show s.code.length≤_;omega) (Dj bs (s.at_+1)) Ps Ig HC kb kc HL Ge IA
          repeat' (first|apply Cv|refine Ct 0 Cr Ag ?_|refine Ct 1 Cr AF ?_|refine CO 2 Cr Al Ab ?_|refine CY 2 Cr Al Ab ?_|(refine gk 4 rfl ?_;(refine CK rfl rfl rfl rfl rfl rfl rfl rfl (ID p J bs (s.at_+1) s.loops kb s.code.length kc Lf Ab Ma hb) ?_;rintro _ _ ⟨rfl,rfl⟩;refine⟨_,_,rfl,rfl,?_⟩))|(refine gk 4 rfl ?_;(refine CK rfl rfl rfl rfl rfl rfl rfl rfl (hq) ?_;rintro _ _ ⟨HCL,kbL,kcL,HLL,rfl,rfl,Il,osLL⟩;refine⟨_,_,rfl,rfl,?_⟩))|refine Cu ?_|apply Cw|refine Cy ?_|refine CH ?_|refine CF ?_)
          rw [e9];exact⟨rfl,⟨i,(Gz (Dj bs (s.at_+1)) s.nx.nx),kbL,kcL,HCL,HLL⟩,CX (by repeat first|exact Sub.nil _|refine Sub.cons rfl ?_),⟨by dsimp only;omega,E7,Il,osLL,hFl,by dsimp only;rw [hFk];exact Ig,by dsimp only;omega,by dsimp only;omega⟩,by dsimp only;omega⟩
      | false=>
        have c8:1≤d:=by
          by_cases q:d≤0
          · exact absurd (ZM.2 q) Ah
          · omega
        rw [if_neg Ah] at E7 hFl hFk hFo hFa
        repeat' ((fail_if_success (refine Ep 8 ?_));(first|refine CW rfl rfl rfl (D1 (b:=12) rfl rfl rfl Ah) ?_|apply Cv|refine Ct 0 Cr Aw ?_|refine CO 2 Cr Cj Ab ?_|refine CY 2 Cr Bh Ab ?_|refine Ct 3 Cr Af ?_|refine Ct 4 Cr Ae ?_|(refine gk 4 rfl ?_;(refine CK rfl rfl rfl rfl rfl rfl rfl rfl (ID p J bs s.at_ s.loops kb s.code.length kc Lf Ab Ma hb) ?_;rintro _ _ ⟨rfl,rfl⟩;refine⟨_,_,rfl,rfl,?_⟩))|refine Ct 5 Cr Ak ?_|refine Cu ?_|apply Cw|refine Cy ?_|refine CH ?_|refine CF ?_|refine CC ?_|apply CB))
        obtain⟨n,hn⟩:∃n,n=(Dj bs s.at_):=⟨_,rfl⟩;have hn255:n≤255:=by omega
        rw [<-hn] at E7 hFl hFk hFo hFa
        rw [<-hn];rcases(show n%12=0∨n%12=1∨n%12=2∨n%12=3∨n%12=4∨n%12=5∨n%12=6∨n%12=7∨n%12=8∨n%12=9∨n%12=10∨n%12=11 by omega) with h|h|h|h|h|h|h|h|h|h|h|h
        · have e:ER bs p.own rec n s.nx=(s.nx.nx.put [(0,(((Dj bs (s.at_+1))%5:Nat):Int)),(3,2)]):=by simp only [ER,h] <;>rfl
          rw [e] at E7 hFl hFk hFo hFa
          repeat' (first|refine CW rfl rfl rfl (D1 (b:=5) rfl rfl rfl Ah) ?_|apply Cv|refine Ct 0 Cr Ag ?_|refine Ct 1 Cr AF ?_|refine CO 2 Cr Al Ab ?_|(refine gk 4 rfl ?_;(refine CK rfl rfl rfl rfl rfl rfl rfl rfl (ID p J bs (s.at_+1) s.loops kb s.code.length kc Lf Ab Ma hb) ?_;rintro _ _ ⟨rfl,rfl⟩;refine⟨_,_,rfl,rfl,?_⟩))|(refine gk 4 rfl ?_;(refine CK rfl rfl rfl rfl rfl rfl rfl rfl (R4 p s.nx.nx (s.at_+1+1) s.loops kb s.code.length kc HC _ _ _ [i64 0,i64 (((Dj bs (s.at_+1))%5:Nat):Int),i64 3,i64 2] [(0,(((Dj bs (s.at_+1))%5:Nat):Int)),(3,2)] rfl rfl rfl rfl rfl Ge AT) ?_;rintro _ _ ⟨HC1,FH,FG,rfl,rfl,E2⟩;refine⟨_,_,rfl,rfl,?_⟩))|refine CP (fun b=> ?_)|refine Cu ?_|apply Cw|refine Cy ?_|refine CH ?_)
          rw [e9];exact⟨rfl,⟨i,(s.nx.nx.put [(0,(((Dj bs (s.at_+1))%5:Nat):Int)),(3,2)]),FH,FG,HC1,HL⟩,CX (by repeat first|exact Sub.nil _|refine Sub.cons rfl ?_),⟨by dsimp only;omega,E7,E2,IA,hFl,by dsimp only;rw [hFk];exact Ig,by dsimp only;omega,by dsimp only;omega⟩,by dsimp only;omega⟩
        · have e:ER bs p.own rec n s.nx=(s.nx.put [(2,2),(2,3),(4,0),(3,3)]):=by simp only [ER,h] <;>rfl
          rw [e] at E7 hFl hFk hFo hFa
          repeat' (first|apply Cv|refine Ct 0 Cr Ag ?_|refine Ct 1 Cr AF ?_|refine CO 2 Cr Al Ab ?_|refine CY 2 Cr Al Ab ?_|(refine gk 4 rfl ?_;(refine CK rfl rfl rfl rfl rfl rfl rfl rfl (R4 p s.nx (s.at_+1) s.loops kb s.code.length kc HC _ _ _ [i64 2,i64 2,i64 2,i64 3,i64 4,i64 0,i64 3,i64 3] [(2,2),(2,3),(4,0),(3,3)] rfl rfl rfl rfl rfl Ge AT) ?_;rintro _ _ ⟨HC1,FH,FG,rfl,rfl,E2⟩;refine⟨_,_,rfl,rfl,?_⟩))|refine CP (fun b=> ?_)|refine Cu ?_|apply Cw|refine Cy ?_|refine CH ?_|refine CF ?_)
          rw [e9];exact⟨rfl,⟨i,(s.nx.put [(2,2),(2,3),(4,0),(3,3)]),FH,FG,HC1,HL⟩,CX (by repeat first|exact Sub.nil _|refine Sub.cons rfl ?_),⟨by dsimp only;omega,E7,E2,IA,hFl,by dsimp only;rw [hFk];exact Ig,by dsimp only;omega,by dsimp only;omega⟩,by dsimp only;omega⟩
        · have e:ER bs p.own rec n s.nx=(s.nx.put [(2,3),(19,0)]):=by simp only [ER,h] <;>rfl
          rw [e] at E7 hFl hFk hFo hFa
          repeat' (first|apply Cv|refine Ct 0 Cr Ag ?_|refine Ct 1 Cr AF ?_|refine CO 2 Cr Al Ab ?_|refine CY 2 Cr Al Ab ?_|(refine gk 4 rfl ?_;(refine CK rfl rfl rfl rfl rfl rfl rfl rfl (R4 p s.nx (s.at_+1) s.loops kb s.code.length kc HC _ _ _ [i64 2,i64 3,i64 19,i64 0] [(2,3),(19,0)] rfl rfl rfl rfl rfl Ge AT) ?_;rintro _ _ ⟨HC1,FH,FG,rfl,rfl,E2⟩;refine⟨_,_,rfl,rfl,?_⟩))|refine CP (fun b=> ?_)|refine Cu ?_|apply Cw|refine Cy ?_|refine CH ?_|refine CF ?_)
          rw [e9];exact⟨rfl,⟨i,(s.nx.put [(2,3),(19,0)]),FH,FG,HC1,HL⟩,CX (by repeat first|exact Sub.nil _|refine Sub.cons rfl ?_),⟨by dsimp only;omega,E7,E2,IA,hFl,by dsimp only;rw [hFk];exact Ig,by dsimp only;omega,by dsimp only;omega⟩,by dsimp only;omega⟩
        · have e:ER bs p.own rec n s.nx=(Ea (Dj bs (s.at_+1)) s.nx.nx):=by simp only [ER,h] <;>rfl
          rw [e] at E7 hFl hFk hFo hFa
          have hq:SL.T Tryz.prog 98 [pM p,i64 ((Dj bs (s.at_+1)):Int)] [mC p (s.at_+1+1) s.loops kb s.code.length kc,HC,HL,J] (MQ p J (Ea (Dj bs (s.at_+1)) s.nx.nx)):=IQ p J s.nx.nx (by show s.code.length≤_;omega) (Dj bs (s.at_+1)) Ps HC kb kc HL Ge IA
          repeat' (first|apply Cv|refine Ct 0 Cr Ag ?_|refine Ct 1 Cr AF ?_|refine CO 2 Cr Al Ab ?_|refine CY 2 Cr Al Ab ?_|(refine gk 4 rfl ?_;(refine CK rfl rfl rfl rfl rfl rfl rfl rfl (ID p J bs (s.at_+1) s.loops kb s.code.length kc Lf Ab Ma hb) ?_;rintro _ _ ⟨rfl,rfl⟩;refine⟨_,_,rfl,rfl,?_⟩))|(refine gk 4 rfl ?_;(refine CK rfl rfl rfl rfl rfl rfl rfl rfl (hq) ?_;rintro _ _ ⟨HCL,kbL,kcL,HLL,rfl,rfl,Il,osLL⟩;refine⟨_,_,rfl,rfl,?_⟩))|refine Cu ?_|apply Cw|refine Cy ?_|refine CH ?_|refine CF ?_|apply CB)
          rw [e9];exact⟨rfl,⟨i,(Ea (Dj bs (s.at_+1)) s.nx.nx),kbL,kcL,HCL,HLL⟩,CX (by repeat first|exact Sub.nil _|refine Sub.cons rfl ?_),⟨by dsimp only;omega,E7,Il,osLL,hFl,by dsimp only;rw [hFk];exact Ig,by dsimp only;omega,by dsimp only;omega⟩,by dsimp only;omega⟩
        · have e:ER bs p.own rec n s.nx=(Ea (Dj bs (s.at_+1)) s.nx.nx):=by simp only [ER,h] <;>rfl
          rw [e] at E7 hFl hFk hFo hFa
          have hq:SL.T Tryz.prog 98 [pM p,i64 ((Dj bs (s.at_+1)):Int)] [mC p (s.at_+1+1) s.loops kb s.code.length kc,HC,HL,J] (MQ p J (Ea (Dj bs (s.at_+1)) s.nx.nx)):=IQ p J s.nx.nx (by show s.code.length≤_;omega) (Dj bs (s.at_+1)) Ps HC kb kc HL Ge IA
          repeat' (first|apply Cv|refine Ct 0 Cr Ag ?_|refine Ct 1 Cr AF ?_|refine CO 2 Cr Al Ab ?_|refine CY 2 Cr Al Ab ?_|(refine gk 4 rfl ?_;(refine CK rfl rfl rfl rfl rfl rfl rfl rfl (ID p J bs (s.at_+1) s.loops kb s.code.length kc Lf Ab Ma hb) ?_;rintro _ _ ⟨rfl,rfl⟩;refine⟨_,_,rfl,rfl,?_⟩))|(refine gk 4 rfl ?_;(refine CK rfl rfl rfl rfl rfl rfl rfl rfl (hq) ?_;rintro _ _ ⟨HCL,kbL,kcL,HLL,rfl,rfl,Il,osLL⟩;refine⟨_,_,rfl,rfl,?_⟩))|refine Cu ?_|apply Cw|refine Cy ?_|refine CH ?_|refine CF ?_)
          rw [e9];exact⟨rfl,⟨i,(Ea (Dj bs (s.at_+1)) s.nx.nx),kbL,kcL,HCL,HLL⟩,CX (by repeat first|exact Sub.nil _|refine Sub.cons rfl ?_),⟨by dsimp only;omega,E7,Il,osLL,hFl,by dsimp only;rw [hFk];exact Ig,by dsimp only;omega,by dsimp only;omega⟩,by dsimp only;omega⟩
        · have e:ER bs p.own rec n s.nx=(Gz (Dj bs (s.at_+1)) s.nx.nx):=by simp only [ER,h] <;>rfl
          rw [e] at E7 hFl hFk hFo hFa
          have hq:SL.T Tryz.prog 99 [pM p,i64 ((Dj bs (s.at_+1)):Int)] [mC p (s.at_+1+1) s.loops kb s.code.length kc,HC,HL,J] (MQ p J (Gz (Dj bs (s.at_+1)) s.nx.nx)):=OD p J s.nx.nx (by show s.code.length≤_;omega) (Dj bs (s.at_+1)) Ps Ig HC kb kc HL Ge IA
          repeat' (first|apply Cv|refine Ct 0 Cr Ag ?_|refine Ct 1 Cr AF ?_|refine CO 2 Cr Al Ab ?_|refine CY 2 Cr Al Ab ?_|(refine gk 4 rfl ?_;(refine CK rfl rfl rfl rfl rfl rfl rfl rfl (ID p J bs (s.at_+1) s.loops kb s.code.length kc Lf Ab Ma hb) ?_;rintro _ _ ⟨rfl,rfl⟩;refine⟨_,_,rfl,rfl,?_⟩))|(refine gk 4 rfl ?_;(refine CK rfl rfl rfl rfl rfl rfl rfl rfl (hq) ?_;rintro _ _ ⟨HCL,kbL,kcL,HLL,rfl,rfl,Il,osLL⟩;refine⟨_,_,rfl,rfl,?_⟩))|refine Cu ?_|apply Cw|refine Cy ?_|refine CH ?_|refine CF ?_)
          rw [e9];exact⟨rfl,⟨i,(Gz (Dj bs (s.at_+1)) s.nx.nx),kbL,kcL,HCL,HLL⟩,CX (by repeat first|exact Sub.nil _|refine Sub.cons rfl ?_),⟨by dsimp only;omega,E7,Il,osLL,hFl,by dsimp only;rw [hFk];exact Ig,by dsimp only;omega,by dsimp only;omega⟩,by dsimp only;omega⟩
        · have e:ER bs p.own rec n s.nx=(Gv rec 0 s.nx):=by simp only [ER,h]
          rw [e] at E7 hFl hFk hFo hFa
          have hq:SL.T Tryz.prog 100 [pM p,i64 0,i64 d] [mC p (s.at_+1) s.loops kb s.code.length kc,HC,HL,J] (MQ p J (Gv rec 0 s.nx)):=My p J L A X d rec Ab T0 (hB rfl) Ab Ab 0 Ah s.nx h150 Ig (by show s.at_+1≤X;omega) MC HC kb kc HL Ge IA
          repeat' (first|apply Cv|refine Ct 0 Cr Ag ?_|refine Ct 1 Cr AF ?_|refine CO 2 Cr Al Ab ?_|refine CY 2 Cr Al Ab ?_|(refine gk 4 rfl ?_;(refine CK rfl rfl rfl rfl rfl rfl rfl rfl (hq) ?_;rintro _ _ ⟨HCL,kbL,kcL,HLL,rfl,rfl,Il,osLL⟩;refine⟨_,_,rfl,rfl,?_⟩))|refine Cu ?_|apply Cw|refine Cy ?_|refine CH ?_|refine CF ?_)
          rw [e9];exact⟨rfl,⟨i,(Gv rec 0 s.nx),kbL,kcL,HCL,HLL⟩,CX (by repeat first|exact Sub.nil _|refine Sub.cons rfl ?_),⟨by dsimp only;omega,E7,Il,osLL,hFl,by dsimp only;rw [hFk];exact Ig,by dsimp only;omega,by dsimp only;omega⟩,by dsimp only;omega⟩
        · have e:ER bs p.own rec n s.nx=(Gv rec 1 s.nx):=by simp only [ER,h]
          rw [e] at E7 hFl hFk hFo hFa
          have hq:SL.T Tryz.prog 100 [pM p,i64 1,i64 d] [mC p (s.at_+1) s.loops kb s.code.length kc,HC,HL,J] (MQ p J (Gv rec 1 s.nx)):=My p J L A X d rec Ab T0 (hB rfl) Ab Ab 1 Ah s.nx h150 Ig (by show s.at_+1≤X;omega) MC HC kb kc HL Ge IA
          repeat' (first|apply Cv|refine Ct 0 Cr Ag ?_|refine Ct 1 Cr AF ?_|refine CO 2 Cr Al Ab ?_|refine CY 2 Cr Al Ab ?_|(refine gk 4 rfl ?_;(refine CK rfl rfl rfl rfl rfl rfl rfl rfl (hq) ?_;rintro _ _ ⟨HCL,kbL,kcL,HLL,rfl,rfl,Il,osLL⟩;refine⟨_,_,rfl,rfl,?_⟩))|refine Cu ?_|apply Cw|refine Cy ?_|refine CH ?_|refine CF ?_)
          rw [e9];exact⟨rfl,⟨i,(Gv rec 1 s.nx),kbL,kcL,HCL,HLL⟩,CX (by repeat first|exact Sub.nil _|refine Sub.cons rfl ?_),⟨by dsimp only;omega,E7,Il,osLL,hFl,by dsimp only;rw [hFk];exact Ig,by dsimp only;omega,by dsimp only;omega⟩,by dsimp only;omega⟩
        · have e:ER bs p.own rec n s.nx=(Gv rec 4 s.nx):=by simp only [ER,h]
          rw [e] at E7 hFl hFk hFo hFa
          have hq:SL.T Tryz.prog 100 [pM p,i64 4,i64 d] [mC p (s.at_+1) s.loops kb s.code.length kc,HC,HL,J] (MQ p J (Gv rec 4 s.nx)):=My p J L A X d rec Ab T0 (hB rfl) Ab Ab 4 Ah s.nx h150 Ig (by show s.at_+1≤X;omega) MC HC kb kc HL Ge IA
          repeat' (first|apply Cv|refine Ct 0 Cr Ag ?_|refine Ct 1 Cr AF ?_|refine CO 2 Cr Al Ab ?_|refine CY 2 Cr Al Ab ?_|(refine gk 4 rfl ?_;(refine CK rfl rfl rfl rfl rfl rfl rfl rfl (hq) ?_;rintro _ _ ⟨HCL,kbL,kcL,HLL,rfl,rfl,Il,osLL⟩;refine⟨_,_,rfl,rfl,?_⟩))|refine Cu ?_|apply Cw|refine Cy ?_|refine CH ?_|refine CF ?_)
          rw [e9];exact⟨rfl,⟨i,(Gv rec 4 s.nx),kbL,kcL,HCL,HLL⟩,CX (by repeat first|exact Sub.nil _|refine Sub.cons rfl ?_),⟨by dsimp only;omega,E7,Il,osLL,hFl,by dsimp only;rw [hFk];exact Ig,by dsimp only;omega,by dsimp only;omega⟩,by dsimp only;omega⟩
        · have e:ER bs p.own rec n s.nx=(LZ rec s.nx):=by simp only [ER,h]
          rw [e] at E7 hFl hFk hFo hFa
          have hq:SL.T Tryz.prog 101 [pM p,i64 d] [mC p (s.at_+1) s.loops kb s.code.length kc,HC,HL,J] (MQ p J (LZ rec s.nx)):=WD p J L A X d rec Ab T0 (hB rfl) Ab Ab s.nx h150 Ig (by show s.at_+1≤X;omega) MC HC kb kc HL Ge IA
          repeat' (first|apply Cv|refine Ct 0 Cr Ag ?_|refine Ct 1 Cr AF ?_|refine CO 2 Cr Al Ab ?_|refine CY 2 Cr Al Ab ?_|(refine gk 4 rfl ?_;(refine CK rfl rfl rfl rfl rfl rfl rfl rfl (hq) ?_;rintro _ _ ⟨HCL,kbL,kcL,HLL,rfl,rfl,Il,osLL⟩;refine⟨_,_,rfl,rfl,?_⟩))|refine Cu ?_|apply Cw|refine Cy ?_|refine CH ?_|refine CF ?_)
          rw [e9];exact⟨rfl,⟨i,(LZ rec s.nx),kbL,kcL,HCL,HLL⟩,CX (by repeat first|exact Sub.nil _|refine Sub.cons rfl ?_),⟨by dsimp only;omega,E7,Il,osLL,hFl,by dsimp only;rw [hFk];exact Ig,by dsimp only;omega,by dsimp only;omega⟩,by dsimp only;omega⟩
        · have e:ER bs p.own rec n s.nx=(Jr bs rec s.nx):=by simp only [ER,h]
          rw [e] at E7 hFl hFk hFo hFa
          have hq:SL.T Tryz.prog 102 [pM p,i64 d] [mC p (s.at_+1) s.loops kb s.code.length kc,HC,HL,J] (MQ p J (Jr bs rec s.nx)):=Xh p J bs L A X d rec Ab T0 (hB rfl) Ab Ab Lf Ma hb s.nx h150 Ig (by show s.at_+1+1≤X;omega) hX MC HC kb kc HL Ge IA
          repeat' (first|apply Cv|refine Ct 0 Cr Ag ?_|refine Ct 1 Cr AF ?_|refine CO 2 Cr Al Ab ?_|refine CY 2 Cr Al Ab ?_|(refine gk 4 rfl ?_;(refine CK rfl rfl rfl rfl rfl rfl rfl rfl (hq) ?_;rintro _ _ ⟨HCL,kbL,kcL,HLL,rfl,rfl,Il,osLL⟩;refine⟨_,_,rfl,rfl,?_⟩))|refine Cu ?_|apply Cw|refine Cy ?_|refine CH ?_|refine CF ?_)
          rw [e9];exact⟨rfl,⟨i,(Jr bs rec s.nx),kbL,kcL,HCL,HLL⟩,CX (by repeat first|exact Sub.nil _|refine Sub.cons rfl ?_),⟨by dsimp only;omega,E7,Il,osLL,hFl,by dsimp only;rw [hFk];exact Ig,by dsimp only;omega,by dsimp only;omega⟩,by dsimp only;omega⟩
        · have e:ER bs p.own rec n s.nx=(G6 p.own (17+((n/12%2:Nat):Int)) s.nx):=by simp only [ER,h]
          rw [e] at E7 hFl hFk hFo hFa
          have hq:SL.T Tryz.prog 103 [pM p,i64 (17+((n/12%2:Nat):Int))] [mC p (s.at_+1) s.loops kb s.code.length kc,HC,HL,J] (MQ p J (G6 p.own (17+((n/12%2:Nat):Int)) s.nx)):=V8 p J s.nx (by show s.code.length≤_;omega) _ cU HC kb kc HL Ge IA
          repeat' (first|refine CW rfl rfl rfl (D1 (b:=2) rfl rfl rfl Ah) ?_|refine CW rfl rfl rfl (P5 (b:=12) rfl rfl rfl Ah Ab) ?_|apply Cv|refine Ct 0 Cr Ag ?_|refine Ct 1 Cr (by first|exact H4 rfl rfl rfl Ab Ab|exact LD rfl rfl rfl Ab Ab) ?_|refine CY 2 Cr Al Ab ?_|(refine gk 4 rfl ?_;(refine CK rfl rfl rfl rfl rfl rfl rfl rfl (hq) ?_;rintro _ _ ⟨HCL,kbL,kcL,HLL,rfl,rfl,Il,osLL⟩;refine⟨_,_,rfl,rfl,?_⟩))|refine Cu ?_|apply Cw|refine Cy ?_|refine CF ?_)
          rw [e9];exact⟨rfl,⟨i,(G6 p.own (17+((n/12%2:Nat):Int)) s.nx),kbL,kcL,HCL,HLL⟩,CX (by repeat first|exact Sub.nil _|refine Sub.cons rfl ?_),⟨by dsimp only;omega,E7,Il,osLL,hFl,by dsimp only;rw [hFk];exact Ig,by dsimp only;omega,by dsimp only;omega⟩,by dsimp only;omega⟩
    · rw [if_neg h150] at E7
      subst E7
      repeat' (first|apply Cv|refine Ct 0 Cr A4 ?_|refine CO 2 Cr AH Ab ?_|refine CY 2 Cr Aj Ab ?_|refine Ct 3 Cr Af ?_|refine Ct 4 Cr Ae ?_|refine Ct 5 Cr Ak ?_|refine Cu ?_|apply Cw|refine Cy ?_|refine CF ?_|refine C1 ?_|refine Gf ?_|refine Gh ?_)
      exact HR [mB p s kb kc,HC,HL,J] Dt ⟨HC,kb,kc,HL,rfl,rfl,Ge,IA⟩
end Go.Proofs.YtcnmnmjmpocepaaGreatDoor
end
section
namespace Go.Proofs.YtcnmnmjmpocepaaGreatDoor
open Go.SL
open Kd
theorem ND(p:IZ)(J:CA)(bs:List Nat) [Rj:Sl J p.bb (bs.map Rc)](Lf:bs.length=p.bn)(Ma:p.bn≤1000000)(hb:∀x∈bs,x≤255)(cU:p.own≤2):
    ∀k:Nat,k≤3->PA p J (160+7*k) (L3 k) (890000 - 10000*k) (k:Int) (GK bs p.own k)
  |0,_=>⟨fun s h1 h2 h3 h4=>QS p J bs 153 0 900000 ((0:Nat):Int) id true Am Ah (fun h=>by cases h) Ah Ah Ah Ah Lf Ma hb cU s Ab h2 Ab h4,GX bs p.own 0⟩
  | k +1,hk=>by
    have ih:=ND p J bs Lf Ma hb cU k Ab;have hm:L3 k≤91:=by
      rcases(show k=0∨k=1∨k=2 by omega) with rfl|rfl|rfl <;>decide
    refine⟨fun s h1 h2 h3 h4=> ?_,GX bs p.own (k+1)⟩;exact QS p J bs (160+7*k) (L3 k) (890000 - 10000*k) ((k+1:Nat):Int) (GK bs p.own k) false ⟨(fun h=>by cases h),(fun h=>absurd h Ab)⟩ Ab (fun _=>by rw [show(((k+1:Nat):Int) - 1)=(k:Int) by omega];exact ih) Ab Ab Ab Ab Lf Ma hb cU s Ab h2 Ab h4
end Go.Proofs.YtcnmnmjmpocepaaGreatDoor
end
section
namespace Go.Proofs.YtcnmnmjmpocepaaGreatDoor
open Go.SL
open Kd
abbrev Q8:Mk:=⟨0,[],List.replicate 5 false,0⟩
def hU(bs:List Nat)(own:Nat)(J:CA)(e:Ending)(o:List CA):Prop:=
  ∃HC HP kb kc pb pc,o= [J,HC,HP]/\e= .returned (Zx pb (Mr own).length pc 8 6 kb (FK bs own).length kc)/\OS HC kb (FK bs own).length kc 24 3 (CZ (FK bs own))/\OS HP pb (Mr own).length pc 79 1 ((Mr own).map i64)
attribute [local irreducible] SL.T Dw DG DE DI Et D0
section
variable (J:CA) (bb:Option Addr) (bn bc:Nat) (bs:List Nat) [Rj:Sl J bb (bs.map Rc)] (Lf:bs.length=bn) (Ma:bn≤1000000) (hb:∀x∈bs,x≤255)
include Lf Ma hb
theorem Ve:SL.T Tryz.prog 27 [.slice bb bn bc,i64 0] [J] (hU bs 0 J):=by
  refine CM Tryz.func27 rfl (Nat.le_of_ble_eq_true rfl) fun F=> ?_
  refine DH ?_;refine DH ?_;have gd:=fun(FT bL Ji:Nat)=>(show SL.T Tryz.prog 58 [.pointer (some ⟨FT,0,none⟩),.slice (some ⟨Ji,0,none⟩) 12 12] [CV FT (.cells ⟨[.slice bb bn bc,i64 0,i64 0,.slice none 0 0,.slice (some ⟨bL,0,none⟩) 5 5,i64 0]⟩ 136 (0,0)),emp,CV Ji (.cells ⟨[i64 9,i64 0,i64 3,i64 0,i64 9,i64 1,i64 3,i64 1,i64 0,i64 1,i64 3,i64 2]⟩ 3 (0,0))]
    (fun e o=>∃HC' kb' kc',o= [mB (⟨FT,bb,bn,bc,0,some ⟨bL,0,none⟩⟩:IZ) (Q8.put [(9,0),(3,0),(9,1),(3,1),(0,1),(3,2)]) kb' kc',HC',CV Ji (.cells ⟨[i64 9,i64 0,i64 3,i64 0,i64 9,i64 1,i64 3,i64 1,i64 0,i64 1,i64 3,i64 2]⟩ 3 (0,0))]/\e= .returned (.tuple #[])/\OS HC' kb' (Q8.put [(9,0),(3,0),(9,1),(3,1),(0,1),(3,2)]).code.length kc' 24 3 (CZ (Q8.put [(9,0),(3,0),(9,1),(3,1),(0,1),(3,2)]).code)) from DT (⟨FT,bb,bn,bc,0,some ⟨bL,0,none⟩⟩:IZ) Q8 none 0 emp Ji 12 12 [i64 9,i64 0,i64 3,i64 0,i64 9,i64 1,i64 3,i64 1,i64 0,i64 1,i64 3,i64 2] [(9,0),(3,0),(9,1),(3,1),(0,1),(3,2)] rfl rfl OS.nil Ah)
  repeat' (first|refine HA rfl rfl rfl (Fw (m:=5) rfl rfl rfl rfl Ab Ab) (fun bL=> ?_)|apply Cv|refine Ct 0 Cr Ag ?_|refine CO 2 Cr AP Ab ?_|(refine gk 4 rfl ?_;(refine CK rfl rfl rfl rfl rfl rfl rfl rfl (gd _ bL _) ?_;rintro _ _ ⟨HC1,FH,FG,rfl,rfl,E2⟩;refine⟨_,_,rfl,rfl,?_⟩))|refine Ct 5 Cr Aq ?_|refine CP (fun b=> ?_)|refine C2 (fun β=> ?_)|refine CT (fun β=> ?_)|refine CN ?_|refine Cu ?_|apply Cw|refine Cy ?_|refine CH ?_|refine CC ?_)
  obtain⟨JP,rfl⟩:∃x,x=β:=⟨_,rfl⟩;obtain⟨FT,rfl⟩:∃x,x=β:=⟨_,rfl⟩;obtain⟨p,hp⟩:∃p:IZ,p=(⟨FT,bb,bn,bc,0,some ⟨bL,0,none⟩⟩:IZ):=⟨_,rfl⟩;have hpm:p.FT=FT:=by rw [hp]
  have hpb:p.bb=bb:=by rw [hp]
  have hpn:p.bn=bn:=by rw [hp]
  have hpo:p.own=0:=by rw [hp]
  have OR:p.lb=some ⟨bL,0,none⟩:=by rw [hp]
  repeat' (first|apply Cv|refine Ct 0 Cr Ap ?_|(refine gk 4 rfl ?_;(refine CK rfl rfl rfl rfl rfl rfl rfl rfl (DT (⟨FT,bb,bn,bc,0,some ⟨bL,0,none⟩⟩:IZ) (Q8.put [(9,0),(3,0),(9,1),(3,1),(0,1),(3,2)]) FH FG HC1 _ _ _ [i64 0,i64 3,i64 3,i64 3] [(0,3),(3,3)] rfl rfl E2 AJ) ?_;rintro _ _ ⟨HC2,Kl,Kk,rfl,rfl,G3⟩;refine⟨_,_,rfl,rfl,?_⟩))|refine CP (fun b=> ?_)|refine Cu ?_|apply Cw)
  repeat' (first|apply Cv|refine Ct 0 Cr Ap ?_|(refine gk 4 rfl ?_;(refine CK rfl rfl rfl rfl rfl rfl rfl rfl (DT (⟨FT,bb,bn,bc,0,some ⟨bL,0,none⟩⟩:IZ) ((Q8.put [(9,0),(3,0),(9,1),(3,1),(0,1),(3,2)]).put [(0,3),(3,3)]) Kl Kk HC2 _ _ _ [i64 2,i64 0,i64 3,i64 4] [(2,0),(3,4)] rfl rfl G3 AJ) ?_;rintro _ _ ⟨HC3,kb3,kc3,rfl,rfl,O3⟩;refine⟨_,_,rfl,rfl,?_⟩))|refine Cu ?_|apply Cw)
  have hbeg:(((Q8.put [(9,0),(3,0),(9,1),(3,1),(0,1),(3,2)]).put [(0,3),(3,3)]).put [(2,0),(3,4)])=Hl 0:=rfl;have RJ:SL.T Tryz.prog 59 [.pointer (some ⟨FT,0,none⟩),i64 3] [mB (⟨FT,bb,bn,bc,0,some ⟨bL,0,none⟩⟩:IZ) (((Q8.put [(9,0),(3,0),(9,1),(3,1),(0,1),(3,2)]).put [(0,3),(3,3)]).put [(2,0),(3,4)]) kb3 kc3,HC3,CV bL (.cells ⟨List.replicate 5 (.bool false)⟩ 4 (0,0)),J] (MQ (⟨FT,bb,bn,bc,0,some ⟨bL,0,none⟩⟩:IZ) J (GK bs 0 3 (Hl 0))):=by
    have slp:Sl J (⟨FT,bb,bn,bc,0,some ⟨bL,0,none⟩⟩:IZ).bb (bs.map Rc):=Rj;obtain⟨q1,q2,q3,q4,q5⟩:=Jz 0;exact(ND (⟨FT,bb,bn,bc,0,some ⟨bL,0,none⟩⟩:IZ) J bs Lf Ma hb (show 0≤2 by decide) 3 (Nat.le_refl _)).calls (Hl 0) Ab (by rw [q5];rfl) Ab Ab HC3 kb3 kc3 _ O3 (OS.CV Av)
  have hfit:=GX bs 0 3 (Hl 0) (by have:=(Jz 0).1;omega);have hfl:=hfit.len;obtain⟨r,hr⟩:∃z,z=GK bs 0 3 (Hl 0):=⟨_,rfl⟩;rw [<-hr] at RJ hfl
  repeat' (first|apply Cv|refine Ct 0 Cr Ap ?_|(refine gk 4 rfl ?_;(refine CK rfl rfl rfl rfl rfl rfl rfl rfl (RJ) ?_;rintro _ _ ⟨HCb,kbb,kcb,HLb,rfl,rfl,osb,osLb⟩;refine⟨_,_,rfl,rfl,?_⟩))|refine CP (fun b=> ?_)|refine Cu ?_|apply Cw)
  repeat' (first|apply Cv|refine Ct 0 Cr Ap ?_|refine Ct 3 Cr AE ?_|(refine gk 4 rfl ?_;(refine CK rfl rfl rfl rfl rfl rfl rfl rfl (DT (⟨FT,bb,bn,bc,0,some ⟨bL,0,none⟩⟩:IZ) r kbb kcb HCb _ _ _ [i64 2,i64 2,i64 20,i64 0] [(2,2),(20,0)] rfl rfl osb AJ) ?_;rintro _ _ ⟨HC9,kb9,kc9,rfl,rfl,os9⟩;refine⟨_,_,rfl,rfl,?_⟩))|refine Ct 5 Cr Ak ?_|refine CN ?_|refine Cu ?_|apply Cw|refine Cy ?_|apply Cz)
  have Iu:(r.put [(2,2),(20,0)]).code=FK bs 0:=by rw [hr];rfl
  rw [Iu] at os9
  refine CJ [J,HC9,emp] (CD (CR rfl rfl rfl rfl)) ⟨HC9,emp,kb9,kc9,none,0,rfl,?_,os9,OS.nil⟩;rw [<-Iu]
  rfl
theorem Vd:SL.T Tryz.prog 27 [.slice bb bn bc,i64 1] [J] (hU bs 1 J):=by
  refine CM Tryz.func27 rfl (Nat.le_of_ble_eq_true rfl) fun F=> ?_
  refine DH ?_;have gd:=fun(FT bL Ji:Nat)=>(show SL.T Tryz.prog 58 [.pointer (some ⟨FT,0,none⟩),.slice (some ⟨Ji,0,none⟩) 4 4] [CV FT (.cells ⟨[.slice bb bn bc,i64 0,i64 1,.slice none 0 0,.slice (some ⟨bL,0,none⟩) 5 5,i64 0]⟩ 136 (0,0)),emp,CV Ji (.cells ⟨[i64 0,i64 2,i64 3,i64 2]⟩ 3 (0,0))]
    (fun e o=>∃HC' kb' kc',o= [mB (⟨FT,bb,bn,bc,1,some ⟨bL,0,none⟩⟩:IZ) (Q8.put [(0,2),(3,2)]) kb' kc',HC',CV Ji (.cells ⟨[i64 0,i64 2,i64 3,i64 2]⟩ 3 (0,0))]/\e= .returned (.tuple #[])/\OS HC' kb' (Q8.put [(0,2),(3,2)]).code.length kc' 24 3 (CZ (Q8.put [(0,2),(3,2)]).code)) from DT (⟨FT,bb,bn,bc,1,some ⟨bL,0,none⟩⟩:IZ) Q8 none 0 emp Ji 4 4 [i64 0,i64 2,i64 3,i64 2] [(0,2),(3,2)] rfl rfl OS.nil Ah)
  repeat' (first|refine HA rfl rfl rfl (Fw (m:=5) rfl rfl rfl rfl Ab Ab) (fun bL=> ?_)|apply Cv|refine Ct 0 Cr Ag ?_|refine CO 2 Cr AP Ab ?_|refine CY 2 Cr Al Ab ?_|refine Ct 3 Cr Bc ?_|(refine gk 4 rfl ?_;(refine CK rfl rfl rfl rfl rfl rfl rfl rfl (gd _ bL _) ?_;rintro _ _ ⟨HC1,FH,FG,rfl,rfl,E2⟩;refine⟨_,_,rfl,rfl,?_⟩))|refine Ct 5 Cr Aq ?_|refine CP (fun b=> ?_)|refine C2 (fun β=> ?_)|refine CT (fun β=> ?_)|refine CN ?_|refine Cu ?_|apply Cw|refine Cy ?_|refine CH ?_|refine CF ?_|refine CC ?_)
  obtain⟨JP,rfl⟩:∃x,x=β:=⟨_,rfl⟩;obtain⟨FT,rfl⟩:∃x,x=β:=⟨_,rfl⟩;obtain⟨sf,rfl⟩:∃x,x=b:=⟨_,rfl⟩;obtain⟨tf,rfl⟩:∃x,x=b:=⟨_,rfl⟩;obtain⟨bp,rfl⟩:∃x,x=b:=⟨_,rfl⟩;obtain⟨p,hp⟩:∃p:IZ,p=(⟨FT,bb,bn,bc,1,some ⟨bL,0,none⟩⟩:IZ):=⟨_,rfl⟩;have hpm:p.FT=FT:=by rw [hp]
  have hpb:p.bb=bb:=by rw [hp]
  have hpn:p.bn=bn:=by rw [hp]
  have hpo:p.own=1:=by rw [hp]
  have OR:p.lb=some ⟨bL,0,none⟩:=by rw [hp]
  repeat' (first|apply Cv|refine Ct 0 Cr Ap ?_|(refine gk 4 rfl ?_;(refine CK rfl rfl rfl rfl rfl rfl rfl rfl (DT (⟨FT,bb,bn,bc,1,some ⟨bL,0,none⟩⟩:IZ) (Q8.put [(0,2),(3,2)]) FH FG HC1 _ _ _ [i64 0,i64 3,i64 3,i64 3] [(0,3),(3,3)] rfl rfl E2 AJ) ?_;rintro _ _ ⟨HC2,Kl,Kk,rfl,rfl,G3⟩;refine⟨_,_,rfl,rfl,?_⟩))|refine CP (fun b=> ?_)|refine Cu ?_|apply Cw)
  repeat' (first|apply Cv|refine Ct 0 Cr Ap ?_|(refine gk 4 rfl ?_;(refine CK rfl rfl rfl rfl rfl rfl rfl rfl (DT (⟨FT,bb,bn,bc,1,some ⟨bL,0,none⟩⟩:IZ) ((Q8.put [(0,2),(3,2)]).put [(0,3),(3,3)]) Kl Kk HC2 _ _ _ [i64 2,i64 0,i64 3,i64 4] [(2,0),(3,4)] rfl rfl G3 AJ) ?_;rintro _ _ ⟨HC3,kb3,kc3,rfl,rfl,O3⟩;refine⟨_,_,rfl,rfl,?_⟩))|refine Cu ?_|apply Cw)
  have hbeg:(((Q8.put [(0,2),(3,2)]).put [(0,3),(3,3)]).put [(2,0),(3,4)])=Hl 1:=rfl;have RJ:SL.T Tryz.prog 59 [.pointer (some ⟨FT,0,none⟩),i64 3] [mB (⟨FT,bb,bn,bc,1,some ⟨bL,0,none⟩⟩:IZ) (((Q8.put [(0,2),(3,2)]).put [(0,3),(3,3)]).put [(2,0),(3,4)]) kb3 kc3,HC3,CV bL (.cells ⟨List.replicate 5 (.bool false)⟩ 4 (0,0)),J] (MQ (⟨FT,bb,bn,bc,1,some ⟨bL,0,none⟩⟩:IZ) J (GK bs 1 3 (Hl 1))):=by
    have slp:Sl J (⟨FT,bb,bn,bc,1,some ⟨bL,0,none⟩⟩:IZ).bb (bs.map Rc):=Rj;obtain⟨q1,q2,q3,q4,q5⟩:=Jz 1;exact(ND (⟨FT,bb,bn,bc,1,some ⟨bL,0,none⟩⟩:IZ) J bs Lf Ma hb (show 1≤2 by decide) 3 (Nat.le_refl _)).calls (Hl 1) Ab (by rw [q5];rfl) Ab Ab HC3 kb3 kc3 _ O3 (OS.CV Av)
  have hfit:=GX bs 1 3 (Hl 1) (by have:=(Jz 1).1;omega);have hfl:=hfit.len;obtain⟨r,hr⟩:∃z,z=GK bs 1 3 (Hl 1):=⟨_,rfl⟩;rw [<-hr] at RJ hfl
  repeat' (first|apply Cv|refine Ct 0 Cr Ap ?_|(refine gk 4 rfl ?_;(refine CK rfl rfl rfl rfl rfl rfl rfl rfl (RJ) ?_;rintro _ _ ⟨HCb,kbb,kcb,HLb,rfl,rfl,osb,osLb⟩;refine⟨_,_,rfl,rfl,?_⟩))|refine CP (fun b=> ?_)|refine Cu ?_|apply Cw)
  repeat' (first|apply Cv|refine Ct 0 Cr Ap ?_|refine Ct 3 Cr AE ?_|(refine gk 4 rfl ?_;(refine CK rfl rfl rfl rfl rfl rfl rfl rfl (DT (⟨FT,bb,bn,bc,1,some ⟨bL,0,none⟩⟩:IZ) r kbb kcb HCb _ _ _ [i64 2,i64 2,i64 20,i64 0] [(2,2),(20,0)] rfl rfl osb AJ) ?_;rintro _ _ ⟨HC9,kb9,kc9,rfl,rfl,os9⟩;refine⟨_,_,rfl,rfl,?_⟩))|refine Ct 5 Cr Ak ?_|refine CN ?_|refine Cu ?_|apply Cw|refine Cy ?_|apply Cz)
  have Iu:(r.put [(2,2),(20,0)]).code=FK bs 1:=by rw [hr];rfl
  rw [Iu] at os9
  refine CJ [J,HC9,CV bp (.cells ⟨[i64 1,i64 2]⟩ 79 (0,0))] (CD (CR rfl rfl rfl rfl)) ⟨HC9,CV bp (.cells ⟨[i64 1,i64 2]⟩ 79 (0,0)),kb9,kc9,some ⟨bp,0,none⟩,2,rfl,?_,os9,OS.CV Av⟩;rw [<-Iu]
  rfl
theorem Vc:SL.T Tryz.prog 27 [.slice bb bn bc,i64 2] [J] (hU bs 2 J):=by
  refine CM Tryz.func27 rfl (Nat.le_of_ble_eq_true rfl) fun F=> ?_
  refine DH ?_;have gd:=fun(FT bL Ji:Nat)=>(show SL.T Tryz.prog 58 [.pointer (some ⟨FT,0,none⟩),.slice (some ⟨Ji,0,none⟩) 4 4] [CV FT (.cells ⟨[.slice bb bn bc,i64 0,i64 2,.slice none 0 0,.slice (some ⟨bL,0,none⟩) 5 5,i64 0]⟩ 136 (0,0)),emp,CV Ji (.cells ⟨[i64 2,i64 0,i64 3,i64 4]⟩ 3 (0,0))]
    (fun e o=>∃HC' kb' kc',o= [mB (⟨FT,bb,bn,bc,2,some ⟨bL,0,none⟩⟩:IZ) (Q8.put [(2,0),(3,4)]) kb' kc',HC',CV Ji (.cells ⟨[i64 2,i64 0,i64 3,i64 4]⟩ 3 (0,0))]/\e= .returned (.tuple #[])/\OS HC' kb' (Q8.put [(2,0),(3,4)]).code.length kc' 24 3 (CZ (Q8.put [(2,0),(3,4)]).code)) from DT (⟨FT,bb,bn,bc,2,some ⟨bL,0,none⟩⟩:IZ) Q8 none 0 emp Ji 4 4 [i64 2,i64 0,i64 3,i64 4] [(2,0),(3,4)] rfl rfl OS.nil Ah)
  repeat' (first|refine HA rfl rfl rfl (Fw (m:=5) rfl rfl rfl rfl Ab Ab) (fun bL=> ?_)|apply Cv|refine Ct 0 Cr Ag ?_|refine CY 2 Cr AP Ab ?_|refine Ct 3 Cr Bc ?_|(refine gk 4 rfl ?_;(refine CK rfl rfl rfl rfl rfl rfl rfl rfl (gd _ bL _) ?_;rintro _ _ ⟨HC1,FH,FG,rfl,rfl,E2⟩;refine⟨_,_,rfl,rfl,?_⟩))|refine Ct 5 Cr Aq ?_|refine CP (fun b=> ?_)|refine C2 (fun β=> ?_)|refine CT (fun β=> ?_)|refine CN ?_|refine Cu ?_|apply Cw|refine Cy ?_|refine CF ?_|refine CC ?_|apply CB)
  obtain⟨JP,rfl⟩:∃x,x=β:=⟨_,rfl⟩;obtain⟨FT,rfl⟩:∃x,x=β:=⟨_,rfl⟩;obtain⟨sf,rfl⟩:∃x,x=b:=⟨_,rfl⟩;obtain⟨bp,rfl⟩:∃x,x=b:=⟨_,rfl⟩;obtain⟨p,hp⟩:∃p:IZ,p=(⟨FT,bb,bn,bc,2,some ⟨bL,0,none⟩⟩:IZ):=⟨_,rfl⟩;have hpm:p.FT=FT:=by rw [hp]
  have hpb:p.bb=bb:=by rw [hp]
  have hpn:p.bn=bn:=by rw [hp]
  have hpo:p.own=2:=by rw [hp]
  have OR:p.lb=some ⟨bL,0,none⟩:=by rw [hp]
  have hbeg:(Q8.put [(2,0),(3,4)])=Hl 2:=rfl;have RJ:SL.T Tryz.prog 59 [.pointer (some ⟨FT,0,none⟩),i64 3] [mB (⟨FT,bb,bn,bc,2,some ⟨bL,0,none⟩⟩:IZ) (Q8.put [(2,0),(3,4)]) FH FG,HC1,CV bL (.cells ⟨List.replicate 5 (.bool false)⟩ 4 (0,0)),J] (MQ (⟨FT,bb,bn,bc,2,some ⟨bL,0,none⟩⟩:IZ) J (GK bs 2 3 (Hl 2))):=by
    have slp:Sl J (⟨FT,bb,bn,bc,2,some ⟨bL,0,none⟩⟩:IZ).bb (bs.map Rc):=Rj;obtain⟨q1,q2,q3,q4,q5⟩:=Jz 2;exact(ND (⟨FT,bb,bn,bc,2,some ⟨bL,0,none⟩⟩:IZ) J bs Lf Ma hb (show 2≤2 by decide) 3 (Nat.le_refl _)).calls (Hl 2) Ab (by rw [q5];rfl) Ab Ab HC1 FH FG _ E2 (OS.CV Av)
  have hfit:=GX bs 2 3 (Hl 2) (by have:=(Jz 2).1;omega);have hfl:=hfit.len;obtain⟨r,hr⟩:∃z,z=GK bs 2 3 (Hl 2):=⟨_,rfl⟩;rw [<-hr] at RJ hfl
  repeat' (first|apply Cv|refine Ct 0 Cr Ap ?_|(refine gk 4 rfl ?_;(refine CK rfl rfl rfl rfl rfl rfl rfl rfl (RJ) ?_;rintro _ _ ⟨HCb,kbb,kcb,HLb,rfl,rfl,osb,osLb⟩;refine⟨_,_,rfl,rfl,?_⟩))|refine CP (fun b=> ?_)|refine Cu ?_|apply Cw)
  repeat' (first|apply Cv|refine Ct 0 Cr Ap ?_|refine Ct 3 Cr AE ?_|(refine gk 4 rfl ?_;(refine CK rfl rfl rfl rfl rfl rfl rfl rfl (DT (⟨FT,bb,bn,bc,2,some ⟨bL,0,none⟩⟩:IZ) r kbb kcb HCb _ _ _ [i64 2,i64 2,i64 20,i64 0] [(2,2),(20,0)] rfl rfl osb AJ) ?_;rintro _ _ ⟨HC9,kb9,kc9,rfl,rfl,os9⟩;refine⟨_,_,rfl,rfl,?_⟩))|refine Ct 5 Cr Ak ?_|refine CN ?_|refine Cu ?_|apply Cw|refine Cy ?_|apply Cz)
  have Iu:(r.put [(2,2),(20,0)]).code=FK bs 2:=by rw [hr];rfl
  rw [Iu] at os9
  refine CJ [J,HC9,CV bp (.cells ⟨[i64 1,i64 2,i64 0,i64 0]⟩ 79 (0,0))] (CD (CR rfl rfl rfl rfl)) ⟨HC9,CV bp (.cells ⟨[i64 1,i64 2,i64 0,i64 0]⟩ 79 (0,0)),kb9,kc9,some ⟨bp,0,none⟩,4,rfl,?_,os9,OS.CV Av⟩;rw [<-Iu]
  rfl
end
end Go.Proofs.YtcnmnmjmpocepaaGreatDoor
end
