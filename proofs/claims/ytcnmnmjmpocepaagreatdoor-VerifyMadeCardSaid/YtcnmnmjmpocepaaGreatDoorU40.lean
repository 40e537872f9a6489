
import Derived.Test.YtcnmnmjmpocepaaGreatDoorU00
import Derived.Test.YtcnmnmjmpocepaaGreatDoorU11
import Derived.Test.YtcnmnmjmpocepaaGreatDoorU39
set_option linter.unusedVariables false
set_option linter.unusedSimpArgs false
set_option linter.unusedSectionVars false
set_option maxRecDepth 100000
set_option maxHeartbeats 16000000
namespace Go.Proofs.YtcnmnmjmpocepaaGreatDoor
open Go.SL
open Kd
theorem YY{b:List Nat}(h:∀x∈b,x≤255)(i:Nat):CK b i≤255:=by
  unfold CK;rw [List.getD_eq_getElem?_getD];cases e:b[i]? with
  |none=>simp
  |some x=>simpa using h x (List.mem_of_getElem? e)
def Eb(b:List Nat)(own:Nat)(rec:Mk->Mk)(n:Nat)(s:Mk):Mk:=
  match n%12 with
  |0=>s.nx.put [(0,(CK b s.at_%5:Nat)),(3,2)]
  |1=>s.put [(2,2),(2,3),(4,0),(3,3)]
  |2=>s.put [(2,3),(19,0)]
  |3|4=>DA (CK b s.at_) s.nx
  |5=>FG (CK b s.at_) s.nx
  |6=>FA rec 0 s
  |7=>FA rec 1 s
  |8=>FA rec 4 s
  |9=>Jj rec s
  |10=>HZ b rec s
  |_=>FT own (17+(n/12%2:Nat)) s
theorem bZ(b:List Nat)(own:Nat)(rec:Mk->Mk)(low:Bool)(s:Mk):Iq b own rec low s=Eb b own rec (if low then CK b s.at_%6 else CK b s.at_) s.nx:=rfl
theorem PG(p:HB)(s:Mk)(at_ loops:Nat)(kb:Option Addr)(kn kc:Nat)(HC:B6)(Ha ac an:Nat)(cs:List Value)(l:List (Int×Int))(h1:s.at_=at_)(h2:s.loops=loops)(h3:s.code.length=kn)(L2:cs=H5 l)(db:an=2*l.length)(FK:OS HC kb kn kc 24 3 (Cp s.code))(DE:kn+l.length≤1000000):
    SL.T Tryz.prog 58 [pM p,.slice (some ⟨Ha,0,none⟩) an ac] [mC p at_ loops kb kn kc,HC,Co Ha (.cells ⟨cs⟩ 3 (0,0))] fun e o=>∃HC' kb' kc',o= [mB p (s.put l) kb' kc',HC',Co Ha (.cells ⟨cs⟩ 3 (0,0))]/\e= .returned (.tuple #[])/\OS HC' kb' (s.put l).code.length kc' 24 3 (Cp (s.put l).code):=by
  subst h1 h2 h3;exact Dh p s kb kc HC Ha ac an cs l L2 db FK DE
structure SB where
  i:Nat
  s:Mk
  kb:Option Addr
  kc:Nat
  HC:B6
  HL:B6
attribute [local irreducible] SL.T C7 Dc C6 Db DS Du
theorem OH(p:HB)(J:B6)(bs:List Nat)(L A X:Nat)(d:Int)(rec:Mk->Mk)(low:Bool)(WJ:low=true↔d≤0)(SN:d≤100)(hB:low=false->Nt p J L A X (d - 1) rec)(hL:L≤1000)(iU:153≤L)(hA:A≤10000)(hX:X≤900000)
    [O1:Sl J p.bb (bs.map Mx)] (J4:bs.length=p.bn) (Km:p.bn≤1000000) (hb:∀x∈bs,x≤255) (Yr:p.own≤2)
    (s0:Mk) (Xe:s0.code.length≤L+7) (iI:s0.locked.length=5) (mj:s0.at_+3*(A+2)+3≤X) (iH:s0.loops≤3):
    MT p J 59 [i64 d] s0 (NL (Iq bs p.own rec low) (CK bs s0.at_%3+1) s0.nx):=by
  intro TF OU OT mQ eF GZ;have hbt:=fun i=>YY hb i
  have hfit:∀s:Mk,s.code.length<150->Fit (L+7) (A+2) s (Iq bs p.own rec low s):=fun s hs=>ND low (fun h=>(hB h).fits) iU hs
  have e1:((CK bs s0.at_%3:Nat):Int)+1=((CK bs s0.at_%3+1:Nat):Int):=by omega
  refine Ch Tryz.func59 rfl (Nat.le_of_ble_eq_true rfl) fun F=> ?_
  repeat' (first|refine Cq rfl rfl rfl (Dm (b:=3) rfl rfl rfl Ae) ?_|apply B4|refine B3 0 BY Af ?_|refine B3 1 BY Ap ?_|(refine gk 4 rfl ?_;(refine B9 rfl rfl rfl rfl rfl rfl rfl rfl (T9 p J bs s0 OU OT J4 Ab Km hb) ?_;rintro _ _ ⟨rfl,rfl⟩;refine⟨_,_,rfl,rfl,?_⟩))|refine B0 ?_|apply B5|refine B8 ?_|refine Cf ?_)
  rw [e1];obtain⟨fin,Ei⟩:∃z,z=NL (Iq bs p.own rec low) (CK bs s0.at_%3+1) s0.nx:=⟨_,rfl⟩;rw [<-Ei];refine CH (fun t:SB=> [(0,pM p),(1,i64 d),(4,i64 (t.i:Int))]) (fun t=> [mB p t.s t.kb t.kc,t.HC,t.HL,J])
    (fun t=>t.i≤3/\NL (Iq bs p.own rec low) t.i t.s=fin/\OS t.HC t.kb t.s.code.length t.kc 24 3 (Cp t.s.code)/\OS t.HL p.lb 5 5 4 1 (Pg t.s.locked)/\t.s.code.length≤L+7/\t.s.locked.length=5/\t.s.loops≤3/\t.s.at_+t.i*(A+2)≤s0.at_+1+3*(A+2)) (fun t=>t.i)
    ⟨CK bs s0.at_%3+1,s0.nx,OU,OT,TF,mQ⟩ (by repeat first|exact Sub.nil _|refine Sub.cons rfl ?_) ⟨by dsimp only;omega,Ei.symm,eF,GZ,Xe,iI,iH,?_⟩ ?_
  · dsimp only [Mk.nx];have:(CK bs s0.at_%3+1)≤3:=by omega
    have:=Nat.mul_le_mul_right (A+2) this;omega
  clear Ei e1 eF GZ;rintro⟨i,s,kb,kc,HC,HL⟩ ⟨hi,Ei,FK,G9,hs,J1,WK,E5⟩;dsimp only at hi Ei FK G9 hs J1 WK E5 ⊢
  cases i with
  | zero=>
    have e:s=fin:=Ei;subst e
    repeat' (first|apply B4|refine B3 0 BY BM ?_|refine Cw 0 BZ ?_|refine Cw 2 BZ ?_|refine CE 2 BY AU Ab ?_|refine Cw 3 BZ ?_|refine Cw 4 BZ ?_|refine Cw 5 BZ ?_|refine B0 ?_|apply B5|refine B8 ?_|refine Cg ?_|refine CC ?_|refine Fl ?_|refine Fp ?_)
    exact GB [mB p s kb kc,HC,HL,J] CU ⟨HC,kb,kc,HL,rfl,rfl,FK,G9⟩
  | succ i=>
    unfold NL at Ei
    by_cases h150:s.code.length<150
    · rw [if_pos h150] at Ei
      have hF:=hfit s h150;have hFl:=hF.len;have hFk:=hF.lk;have hFo:=hF.loops;have hFa:=hF.at_;have hmul:(i+1)*(A+2)=i*(A+2)+(A+2):=Nat.succ_mul _ _;have e9:((i+1:Nat):Int) - 1=((i:Nat):Int):=by omega
      rw [bZ] at Ei hFl hFk hFo hFa
      have hb1:=hbt s.at_;have Xi:=hbt (s.at_+1);have hat1:s.at_+(A+2)≤X:=by omega
      clear hF;cases low with
      | true=>
        have ai:d≤0:=WJ.1 rfl;rw [if_pos rfl] at Ei hFl hFk hFo hFa
        repeat' ((fail_if_success (refine Ea 8 ?_));(first|refine Cq rfl rfl rfl (Dm (b:=12) rfl rfl rfl Ae) ?_|refine Cq rfl rfl rfl (Dm (b:=6) rfl rfl rfl Ae) ?_|apply B4|refine B3 0 BY AJ ?_|refine Cs 2 BY BV Ab ?_|refine B3 3 BY Ah ?_|refine B3 4 BY Ag ?_|(refine gk 4 rfl ?_;(refine B9 rfl rfl rfl rfl rfl rfl rfl rfl (Hc p J bs s.at_ s.loops kb s.code.length kc J4 Ab Km hb) ?_;rintro _ _ ⟨rfl,rfl⟩;refine⟨_,_,rfl,rfl,?_⟩))|refine B3 5 BY Al ?_|refine B0 ?_|apply B5|refine B8 ?_|refine Cl ?_|refine Cf ?_|apply Cc))
        obtain⟨n,hn⟩:∃n,n=(CK bs s.at_%6):=⟨_,rfl⟩;have hn255:n≤255:=by omega
        rw [<-hn] at Ei hFl hFk hFo hFa
        rw [<-hn];have hn6:n<6:=by omega
        rcases(show n%12=0∨n%12=1∨n%12=2∨n%12=3∨n%12=4∨n%12=5 by omega) with h|h|h|h|h|h
        · have e:Eb bs p.own rec n s.nx=(s.nx.nx.put [(0,(((CK bs (s.at_+1))%5:Nat):Int)),(3,2)]):=by simp only [Eb,h] <;>rfl
          rw [e] at Ei hFl hFk hFo hFa
          repeat' (first|refine Cq rfl rfl rfl (Dm (b:=5) rfl rfl rfl Ae) ?_|apply B4|refine B3 0 BY Af ?_|refine B3 1 BY Aw ?_|refine Cs 2 BY Ao Ab ?_|(refine gk 4 rfl ?_;(refine B9 rfl rfl rfl rfl rfl rfl rfl rfl (Hc p J bs (s.at_+1) s.loops kb s.code.length kc J4 Ab Km hb) ?_;rintro _ _ ⟨rfl,rfl⟩;refine⟨_,_,rfl,rfl,?_⟩))|(refine gk 4 rfl ?_;(refine B9 rfl rfl rfl rfl rfl rfl rfl rfl (PG p s.nx.nx (s.at_+1+1) s.loops kb s.code.length kc HC _ _ _ [i64 0,i64 (((CK bs (s.at_+1))%5:Nat):Int),i64 3,i64 2] [(0,(((CK bs (s.at_+1))%5:Nat):Int)),(3,2)] rfl rfl rfl rfl rfl FK AM) ?_;rintro _ _ ⟨HC1,EK,EJ,rfl,rfl,EH⟩;refine⟨_,_,rfl,rfl,?_⟩))|refine Cm (fun b=> ?_)|refine B0 ?_|apply B5|refine B8 ?_|refine Cl ?_)
          rw [e9];exact⟨rfl,⟨i,(s.nx.nx.put [(0,(((CK bs (s.at_+1))%5:Nat):Int)),(3,2)]),EK,EJ,HC1,HL⟩,CA (by repeat first|exact Sub.nil _|refine Sub.cons rfl ?_),⟨by dsimp only;omega,Ei,EH,G9,hFl,by dsimp only;rw [hFk];exact J1,by dsimp only;omega,by dsimp only;omega⟩,by dsimp only;omega⟩
        · have e:Eb bs p.own rec n s.nx=(s.nx.put [(2,2),(2,3),(4,0),(3,3)]):=by simp only [Eb,h] <;>rfl
          rw [e] at Ei hFl hFk hFo hFa
          repeat' (first|apply B4|refine B3 0 BY Af ?_|refine B3 1 BY Aw ?_|refine Cs 2 BY Ao Ab ?_|refine CE 2 BY Ao Ab ?_|(refine gk 4 rfl ?_;(refine B9 rfl rfl rfl rfl rfl rfl rfl rfl (PG p s.nx (s.at_+1) s.loops kb s.code.length kc HC _ _ _ [i64 2,i64 2,i64 2,i64 3,i64 4,i64 0,i64 3,i64 3] [(2,2),(2,3),(4,0),(3,3)] rfl rfl rfl rfl rfl FK AM) ?_;rintro _ _ ⟨HC1,EK,EJ,rfl,rfl,EH⟩;refine⟨_,_,rfl,rfl,?_⟩))|refine Cm (fun b=> ?_)|refine B0 ?_|apply B5|refine B8 ?_|refine Cl ?_|refine Cg ?_)
          rw [e9];exact⟨rfl,⟨i,(s.nx.put [(2,2),(2,3),(4,0),(3,3)]),EK,EJ,HC1,HL⟩,CA (by repeat first|exact Sub.nil _|refine Sub.cons rfl ?_),⟨by dsimp only;omega,Ei,EH,G9,hFl,by dsimp only;rw [hFk];exact J1,by dsimp only;omega,by dsimp only;omega⟩,by dsimp only;omega⟩
        · have e:Eb bs p.own rec n s.nx=(s.nx.put [(2,3),(19,0)]):=by simp only [Eb,h] <;>rfl
          rw [e] at Ei hFl hFk hFo hFa
          repeat' (first|apply B4|refine B3 0 BY Af ?_|refine B3 1 BY Aw ?_|refine Cs 2 BY Ao Ab ?_|refine CE 2 BY Ao Ab ?_|(refine gk 4 rfl ?_;(refine B9 rfl rfl rfl rfl rfl rfl rfl rfl (PG p s.nx (s.at_+1) s.loops kb s.code.length kc HC _ _ _ [i64 2,i64 3,i64 19,i64 0] [(2,3),(19,0)] rfl rfl rfl rfl rfl FK AM) ?_;rintro _ _ ⟨HC1,EK,EJ,rfl,rfl,EH⟩;refine⟨_,_,rfl,rfl,?_⟩))|refine Cm (fun b=> ?_)|refine B0 ?_|apply B5|refine B8 ?_|refine Cl ?_|refine Cg ?_)
          rw [e9];exact⟨rfl,⟨i,(s.nx.put [(2,3),(19,0)]),EK,EJ,HC1,HL⟩,CA (by repeat first|exact Sub.nil _|refine Sub.cons rfl ?_),⟨by dsimp only;omega,Ei,EH,G9,hFl,by dsimp only;rw [hFk];exact J1,by dsimp only;omega,by dsimp only;omega⟩,by dsimp only;omega⟩
        · have e:Eb bs p.own rec n s.nx=(DA (CK bs (s.at_+1)) s.nx.nx):=by simp only [Eb,h] <;>rfl
          rw [e] at Ei hFl hFk hFo hFa
          have hq:SL.T Tryz.prog 98 [pM p,i64 ((CK bs (s.at_+1)):Int)] [mC p (s.at_+1+1) s.loops kb s.code.length kc,HC,HL,J] (MQ p J (DA (CK bs (s.at_+1)) s.nx.nx)):=Hq p J s.nx.nx (by show s.code.length≤_;omega) (CK bs (s.at_+1)) Xi HC kb kc HL FK G9
          repeat' (first|apply B4|refine B3 0 BY Af ?_|refine B3 1 BY Aw ?_|refine Cs 2 BY Ao Ab ?_|refine CE 2 BY Ao Ab ?_|(refine gk 4 rfl ?_;(refine B9 rfl rfl rfl rfl rfl rfl rfl rfl (Hc p J bs (s.at_+1) s.loops kb s.code.length kc J4 Ab Km hb) ?_;rintro _ _ ⟨rfl,rfl⟩;refine⟨_,_,rfl,rfl,?_⟩))|(refine gk 4 rfl ?_;(refine B9 rfl rfl rfl rfl rfl rfl rfl rfl (hq) ?_;rintro _ _ ⟨HCL,kbL,kcL,HLL,rfl,rfl,GZ,osLL⟩;refine⟨_,_,rfl,rfl,?_⟩))|refine B0 ?_|apply B5|refine B8 ?_|refine Cl ?_|refine Cg ?_|apply Cc)
          rw [e9];exact⟨rfl,⟨i,(DA (CK bs (s.at_+1)) s.nx.nx),kbL,kcL,HCL,HLL⟩,CA (by repeat first|exact Sub.nil _|refine Sub.cons rfl ?_),⟨by dsimp only;omega,Ei,GZ,osLL,hFl,by dsimp only;rw [hFk];exact J1,by dsimp only;omega,by dsimp only;omega⟩,by dsimp only;omega⟩
        · have e:Eb bs p.own rec n s.nx=(DA (CK bs (s.at_+1)) s.nx.nx):=by simp only [Eb,h] <;>rfl
          rw [e] at Ei hFl hFk hFo hFa
          have hq:SL.T Tryz.prog 98 [pM p,i64 ((CK bs (s.at_+1)):Int)] [mC p (s.at_+1+1) s.loops kb s.code.length kc,HC,HL,J] (MQ p J (DA (CK bs (s.at_+1)) s.nx.nx)):=Hq p J s.nx.nx (by show s.code.length≤_;omega) (CK bs (s.at_+1)) Xi HC kb kc HL FK G9
          repeat' (first|apply B4|refine B3 0 BY Af ?_|refine B3 1 BY Aw ?_|refine Cs 2 BY Ao Ab ?_|refine CE 2 BY Ao Ab ?_|(refine gk 4 rfl ?_;(refine B9 rfl rfl rfl rfl rfl rfl rfl rfl (Hc p J bs (s.at_+1) s.loops kb s.code.length kc J4 Ab Km hb) ?_;rintro _ _ ⟨rfl,rfl⟩;refine⟨_,_,rfl,rfl,?_⟩))|(refine gk 4 rfl ?_;(refine B9 rfl rfl rfl rfl rfl rfl rfl rfl (hq) ?_;rintro _ _ ⟨HCL,kbL,kcL,HLL,rfl,rfl,GZ,osLL⟩;refine⟨_,_,rfl,rfl,?_⟩))|refine B0 ?_|apply B5|refine B8 ?_|refine Cl ?_|refine Cg ?_)
          rw [e9];exact⟨rfl,⟨i,(DA (CK bs (s.at_+1)) s.nx.nx),kbL,kcL,HCL,HLL⟩,CA (by repeat first|exact Sub.nil _|refine Sub.cons rfl ?_),⟨by dsimp only;omega,Ei,GZ,osLL,hFl,by dsimp only;rw [hFk];exact J1,by dsimp only;omega,by dsimp only;omega⟩,by dsimp only;omega⟩
        · have e:Eb bs p.own rec n s.nx=(FG (CK bs (s.at_+1)) s.nx.nx):=by simp only [Eb,h] <;>rfl
          rw [e] at Ei hFl hFk hFo hFa
          have hq:SL.T Tryz.prog 99 [pM p,i64 ((CK bs (s.at_+1)):Int)] [mC p (s.at_+1+1) s.loops kb s.code.length kc,HC,HL,J] (MQ p J (FG (CK bs (s.at_+1)) s.nx.nx)):=MB p J s.nx.nx (by show s.code.length≤_;omega) (CK bs (s.at_+1)) Xi J1 HC kb kc HL FK G9
          repeat' (first|apply B4|refine B3 0 BY Af ?_|refine B3 1 BY Aw ?_|refine Cs 2 BY Ao Ab ?_|refine CE 2 BY Ao Ab ?_|(refine gk 4 rfl ?_;(refine B9 rfl rfl rfl rfl rfl rfl rfl rfl (Hc p J bs (s.at_+1) s.loops kb s.code.length kc J4 Ab Km hb) ?_;rintro _ _ ⟨rfl,rfl⟩;refine⟨_,_,rfl,rfl,?_⟩))|(refine gk 4 rfl ?_;(refine B9 rfl rfl rfl rfl rfl rfl rfl rfl (hq) ?_;rintro _ _ ⟨HCL,kbL,kcL,HLL,rfl,rfl,GZ,osLL⟩;refine⟨_,_,rfl,rfl,?_⟩))|refine B0 ?_|apply B5|refine B8 ?_|refine Cl ?_|refine Cg ?_)
          rw [e9];exact⟨rfl,⟨i,(FG (CK bs (s.at_+1)) s.nx.nx),kbL,kcL,HCL,HLL⟩,CA (by repeat first|exact Sub.nil _|refine Sub.cons rfl ?_),⟨by dsimp only;omega,Ei,GZ,osLL,hFl,by dsimp only;rw [hFk];exact J1,by dsimp only;omega,by dsimp only;omega⟩,by dsimp only;omega⟩
      | false=>
        have ai:1≤d:=by
          by_cases q:d≤0
          · exact absurd (WJ.2 q) Ae
          · omega
        rw [if_neg Ae] at Ei hFl hFk hFo hFa
        repeat' ((fail_if_success (refine Ea 8 ?_));(first|refine Cq rfl rfl rfl (Dm (b:=12) rfl rfl rfl Ae) ?_|apply B4|refine B3 0 BY AJ ?_|refine Cs 2 BY BV Ab ?_|refine CE 2 BY A9 Ab ?_|refine B3 3 BY Ah ?_|refine B3 4 BY Ag ?_|(refine gk 4 rfl ?_;(refine B9 rfl rfl rfl rfl rfl rfl rfl rfl (Hc p J bs s.at_ s.loops kb s.code.length kc J4 Ab Km hb) ?_;rintro _ _ ⟨rfl,rfl⟩;refine⟨_,_,rfl,rfl,?_⟩))|refine B3 5 BY Al ?_|refine B0 ?_|apply B5|refine B8 ?_|refine Cl ?_|refine Cg ?_|refine Cf ?_|apply Cc))
        obtain⟨n,hn⟩:∃n,n=(CK bs s.at_):=⟨_,rfl⟩;have hn255:n≤255:=by omega
        rw [<-hn] at Ei hFl hFk hFo hFa
        rw [<-hn];rcases(show n%12=0∨n%12=1∨n%12=2∨n%12=3∨n%12=4∨n%12=5∨n%12=6∨n%12=7∨n%12=8∨n%12=9∨n%12=10∨n%12=11 by omega) with h|h|h|h|h|h|h|h|h|h|h|h
        · have e:Eb bs p.own rec n s.nx=(s.nx.nx.put [(0,(((CK bs (s.at_+1))%5:Nat):Int)),(3,2)]):=by simp only [Eb,h] <;>rfl
          rw [e] at Ei hFl hFk hFo hFa
          repeat' (first|refine Cq rfl rfl rfl (Dm (b:=5) rfl rfl rfl Ae) ?_|apply B4|refine B3 0 BY Af ?_|refine B3 1 BY Aw ?_|refine Cs 2 BY Ao Ab ?_|(refine gk 4 rfl ?_;(refine B9 rfl rfl rfl rfl rfl rfl rfl rfl (Hc p J bs (s.at_+1) s.loops kb s.code.length kc J4 Ab Km hb) ?_;rintro _ _ ⟨rfl,rfl⟩;refine⟨_,_,rfl,rfl,?_⟩))|(refine gk 4 rfl ?_;(refine B9 rfl rfl rfl rfl rfl rfl rfl rfl (PG p s.nx.nx (s.at_+1+1) s.loops kb s.code.length kc HC _ _ _ [i64 0,i64 (((CK bs (s.at_+1))%5:Nat):Int),i64 3,i64 2] [(0,(((CK bs (s.at_+1))%5:Nat):Int)),(3,2)] rfl rfl rfl rfl rfl FK AM) ?_;rintro _ _ ⟨HC1,EK,EJ,rfl,rfl,EH⟩;refine⟨_,_,rfl,rfl,?_⟩))|refine Cm (fun b=> ?_)|refine B0 ?_|apply B5|refine B8 ?_|refine Cl ?_)
          rw [e9];exact⟨rfl,⟨i,(s.nx.nx.put [(0,(((CK bs (s.at_+1))%5:Nat):Int)),(3,2)]),EK,EJ,HC1,HL⟩,CA (by repeat first|exact Sub.nil _|refine Sub.cons rfl ?_),⟨by dsimp only;omega,Ei,EH,G9,hFl,by dsimp only;rw [hFk];exact J1,by dsimp only;omega,by dsimp only;omega⟩,by dsimp only;omega⟩
        · have e:Eb bs p.own rec n s.nx=(s.nx.put [(2,2),(2,3),(4,0),(3,3)]):=by simp only [Eb,h] <;>rfl
          rw [e] at Ei hFl hFk hFo hFa
          repeat' (first|apply B4|refine B3 0 BY Af ?_|refine B3 1 BY Aw ?_|refine Cs 2 BY Ao Ab ?_|refine CE 2 BY Ao Ab ?_|(refine gk 4 rfl ?_;(refine B9 rfl rfl rfl rfl rfl rfl rfl rfl (PG p s.nx (s.at_+1) s.loops kb s.code.length kc HC _ _ _ [i64 2,i64 2,i64 2,i64 3,i64 4,i64 0,i64 3,i64 3] [(2,2),(2,3),(4,0),(3,3)] rfl rfl rfl rfl rfl FK AM) ?_;rintro _ _ ⟨HC1,EK,EJ,rfl,rfl,EH⟩;refine⟨_,_,rfl,rfl,?_⟩))|refine Cm (fun b=> ?_)|refine B0 ?_|apply B5|refine B8 ?_|refine Cl ?_|refine Cg ?_)
          rw [e9];exact⟨rfl,⟨i,(s.nx.put [(2,2),(2,3),(4,0),(3,3)]),EK,EJ,HC1,HL⟩,CA (by repeat first|exact Sub.nil _|refine Sub.cons rfl ?_),⟨by dsimp only;omega,Ei,EH,G9,hFl,by dsimp only;rw [hFk];exact J1,by dsimp only;omega,by dsimp only;omega⟩,by dsimp only;omega⟩
        · have e:Eb bs p.own rec n s.nx=(s.nx.put [(2,3),(19,0)]):=by simp only [Eb,h] <;>rfl
          rw [e] at Ei hFl hFk hFo hFa
          repeat' (first|apply B4|refine B3 0 BY Af ?_|refine B3 1 BY Aw ?_|refine Cs 2 BY Ao Ab ?_|refine CE 2 BY Ao Ab ?_|(refine gk 4 rfl ?_;(refine B9 rfl rfl rfl rfl rfl rfl rfl rfl (PG p s.nx (s.at_+1) s.loops kb s.code.length kc HC _ _ _ [i64 2,i64 3,i64 19,i64 0] [(2,3),(19,0)] rfl rfl rfl rfl rfl FK AM) ?_;rintro _ _ ⟨HC1,EK,EJ,rfl,rfl,EH⟩;refine⟨_,_,rfl,rfl,?_⟩))|refine Cm (fun b=> ?_)|refine B0 ?_|apply B5|refine B8 ?_|refine Cl ?_|refine Cg ?_)
          rw [e9];exact⟨rfl,⟨i,(s.nx.put [(2,3),(19,0)]),EK,EJ,HC1,HL⟩,CA (by repeat first|exact Sub.nil _|refine Sub.cons rfl ?_),⟨by dsimp only;omega,Ei,EH,G9,hFl,by dsimp only;rw [hFk];exact J1,by dsimp only;omega,by dsimp only;omega⟩,by dsimp only;omega⟩
        · have e:Eb bs p.own rec n s.nx=(DA (CK bs (s.at_+1)) s.nx.nx):=by simp only [Eb,h] <;>rfl
          rw [e] at Ei hFl hFk hFo hFa
          have hq:SL.T Tryz.prog 98 [pM p,i64 ((CK bs (s.at_+1)):Int)] [mC p (s.at_+1+1) s.loops kb s.code.length kc,HC,HL,J] (MQ p J (DA (CK bs (s.at_+1)) s.nx.nx)):=Hq p J s.nx.nx (by show s.code.length≤_;omega) (CK bs (s.at_+1)) Xi HC kb kc HL FK G9
          repeat' (first|apply B4|refine B3 0 BY Af ?_|refine B3 1 BY Aw ?_|refine Cs 2 BY Ao Ab ?_|refine CE 2 BY Ao Ab ?_|(refine gk 4 rfl ?_;(refine B9 rfl rfl rfl rfl rfl rfl rfl rfl (Hc p J bs (s.at_+1) s.loops kb s.code.length kc J4 Ab Km hb) ?_;rintro _ _ ⟨rfl,rfl⟩;refine⟨_,_,rfl,rfl,?_⟩))|(refine gk 4 rfl ?_;(refine B9 rfl rfl rfl rfl rfl rfl rfl rfl (hq) ?_;rintro _ _ ⟨HCL,kbL,kcL,HLL,rfl,rfl,GZ,osLL⟩;refine⟨_,_,rfl,rfl,?_⟩))|refine B0 ?_|apply B5|refine B8 ?_|refine Cl ?_|refine Cg ?_|apply Cc)
          rw [e9];exact⟨rfl,⟨i,(DA (CK bs (s.at_+1)) s.nx.nx),kbL,kcL,HCL,HLL⟩,CA (by repeat first|exact Sub.nil _|refine Sub.cons rfl ?_),⟨by dsimp only;omega,Ei,GZ,osLL,hFl,by dsimp only;rw [hFk];exact J1,by dsimp only;omega,by dsimp only;omega⟩,by dsimp only;omega⟩
        · have e:Eb bs p.own rec n s.nx=(DA (CK bs (s.at_+1)) s.nx.nx):=by simp only [Eb,h] <;>rfl
          rw [e] at Ei hFl hFk hFo hFa
          have hq:SL.T Tryz.prog 98 [pM p,i64 ((CK bs (s.at_+1)):Int)] [mC p (s.at_+1+1) s.loops kb s.code.length kc,HC,HL,J] (MQ p J (DA (CK bs (s.at_+1)) s.nx.nx)):=Hq p J s.nx.nx (by show s.code.length≤_;omega) (CK bs (s.at_+1)) Xi HC kb kc HL FK G9
          repeat' (first|apply B4|refine B3 0 BY Af ?_|refine B3 1 BY Aw ?_|refine Cs 2 BY Ao Ab ?_|refine CE 2 BY Ao Ab ?_|(refine gk 4 rfl ?_;(refine B9 rfl rfl rfl rfl rfl rfl rfl rfl (Hc p J bs (s.at_+1) s.loops kb s.code.length kc J4 Ab Km hb) ?_;rintro _ _ ⟨rfl,rfl⟩;refine⟨_,_,rfl,rfl,?_⟩))|(refine gk 4 rfl ?_;(refine B9 rfl rfl rfl rfl rfl rfl rfl rfl (hq) ?_;rintro _ _ ⟨HCL,kbL,kcL,HLL,rfl,rfl,GZ,osLL⟩;refine⟨_,_,rfl,rfl,?_⟩))|refine B0 ?_|apply B5|refine B8 ?_|refine Cl ?_|refine Cg ?_)
          rw [e9];exact⟨rfl,⟨i,(DA (CK bs (s.at_+1)) s.nx.nx),kbL,kcL,HCL,HLL⟩,CA (by repeat first|exact Sub.nil _|refine Sub.cons rfl ?_),⟨by dsimp only;omega,Ei,GZ,osLL,hFl,by dsimp only;rw [hFk];exact J1,by dsimp only;omega,by dsimp only;omega⟩,by dsimp only;omega⟩
        · have e:Eb bs p.own rec n s.nx=(FG (CK bs (s.at_+1)) s.nx.nx):=by simp only [Eb,h] <;>rfl
          rw [e] at Ei hFl hFk hFo hFa
          have hq:SL.T Tryz.prog 99 [pM p,i64 ((CK bs (s.at_+1)):Int)] [mC p (s.at_+1+1) s.loops kb s.code.length kc,HC,HL,J] (MQ p J (FG (CK bs (s.at_+1)) s.nx.nx)):=MB p J s.nx.nx (by show s.code.length≤_;omega) (CK bs (s.at_+1)) Xi J1 HC kb kc HL FK G9
          repeat' (first|apply B4|refine B3 0 BY Af ?_|refine B3 1 BY Aw ?_|refine Cs 2 BY Ao Ab ?_|refine CE 2 BY Ao Ab ?_|(refine gk 4 rfl ?_;(refine B9 rfl rfl rfl rfl rfl rfl rfl rfl (Hc p J bs (s.at_+1) s.loops kb s.code.length kc J4 Ab Km hb) ?_;rintro _ _ ⟨rfl,rfl⟩;refine⟨_,_,rfl,rfl,?_⟩))|(refine gk 4 rfl ?_;(refine B9 rfl rfl rfl rfl rfl rfl rfl rfl (hq) ?_;rintro _ _ ⟨HCL,kbL,kcL,HLL,rfl,rfl,GZ,osLL⟩;refine⟨_,_,rfl,rfl,?_⟩))|refine B0 ?_|apply B5|refine B8 ?_|refine Cl ?_|refine Cg ?_)
          rw [e9];exact⟨rfl,⟨i,(FG (CK bs (s.at_+1)) s.nx.nx),kbL,kcL,HCL,HLL⟩,CA (by repeat first|exact Sub.nil _|refine Sub.cons rfl ?_),⟨by dsimp only;omega,Ei,GZ,osLL,hFl,by dsimp only;rw [hFk];exact J1,by dsimp only;omega,by dsimp only;omega⟩,by dsimp only;omega⟩
        · have e:Eb bs p.own rec n s.nx=(FA rec 0 s.nx):=by simp only [Eb,h]
          rw [e] at Ei hFl hFk hFo hFa
          have hq:SL.T Tryz.prog 100 [pM p,i64 0,i64 d] [mC p (s.at_+1) s.loops kb s.code.length kc,HC,HL,J] (MQ p J (FA rec 0 s.nx)):=KL p J L A X d rec Ab SN (hB rfl) Ab Ab 0 Ae s.nx h150 J1 (by show s.at_+1≤X;omega) WK HC kb kc HL FK G9
          repeat' (first|apply B4|refine B3 0 BY Af ?_|refine B3 1 BY Aw ?_|refine Cs 2 BY Ao Ab ?_|refine CE 2 BY Ao Ab ?_|(refine gk 4 rfl ?_;(refine B9 rfl rfl rfl rfl rfl rfl rfl rfl (hq) ?_;rintro _ _ ⟨HCL,kbL,kcL,HLL,rfl,rfl,GZ,osLL⟩;refine⟨_,_,rfl,rfl,?_⟩))|refine B0 ?_|apply B5|refine B8 ?_|refine Cl ?_|refine Cg ?_)
          rw [e9];exact⟨rfl,⟨i,(FA rec 0 s.nx),kbL,kcL,HCL,HLL⟩,CA (by repeat first|exact Sub.nil _|refine Sub.cons rfl ?_),⟨by dsimp only;omega,Ei,GZ,osLL,hFl,by dsimp only;rw [hFk];exact J1,by dsimp only;omega,by dsimp only;omega⟩,by dsimp only;omega⟩
        · have e:Eb bs p.own rec n s.nx=(FA rec 1 s.nx):=by simp only [Eb,h]
          rw [e] at Ei hFl hFk hFo hFa
          have hq:SL.T Tryz.prog 100 [pM p,i64 1,i64 d] [mC p (s.at_+1) s.loops kb s.code.length kc,HC,HL,J] (MQ p J (FA rec 1 s.nx)):=KL p J L A X d rec Ab SN (hB rfl) Ab Ab 1 Ae s.nx h150 J1 (by show s.at_+1≤X;omega) WK HC kb kc HL FK G9
          repeat' (first|apply B4|refine B3 0 BY Af ?_|refine B3 1 BY Aw ?_|refine Cs 2 BY Ao Ab ?_|refine CE 2 BY Ao Ab ?_|(refine gk 4 rfl ?_;(refine B9 rfl rfl rfl rfl rfl rfl rfl rfl (hq) ?_;rintro _ _ ⟨HCL,kbL,kcL,HLL,rfl,rfl,GZ,osLL⟩;refine⟨_,_,rfl,rfl,?_⟩))|refine B0 ?_|apply B5|refine B8 ?_|refine Cl ?_|refine Cg ?_)
          rw [e9];exact⟨rfl,⟨i,(FA rec 1 s.nx),kbL,kcL,HCL,HLL⟩,CA (by repeat first|exact Sub.nil _|refine Sub.cons rfl ?_),⟨by dsimp only;omega,Ei,GZ,osLL,hFl,by dsimp only;rw [hFk];exact J1,by dsimp only;omega,by dsimp only;omega⟩,by dsimp only;omega⟩
        · have e:Eb bs p.own rec n s.nx=(FA rec 4 s.nx):=by simp only [Eb,h]
          rw [e] at Ei hFl hFk hFo hFa
          have hq:SL.T Tryz.prog 100 [pM p,i64 4,i64 d] [mC p (s.at_+1) s.loops kb s.code.length kc,HC,HL,J] (MQ p J (FA rec 4 s.nx)):=KL p J L A X d rec Ab SN (hB rfl) Ab Ab 4 Ae s.nx h150 J1 (by show s.at_+1≤X;omega) WK HC kb kc HL FK G9
          repeat' (first|apply B4|refine B3 0 BY Af ?_|refine B3 1 BY Aw ?_|refine Cs 2 BY Ao Ab ?_|refine CE 2 BY Ao Ab ?_|(refine gk 4 rfl ?_;(refine B9 rfl rfl rfl rfl rfl rfl rfl rfl (hq) ?_;rintro _ _ ⟨HCL,kbL,kcL,HLL,rfl,rfl,GZ,osLL⟩;refine⟨_,_,rfl,rfl,?_⟩))|refine B0 ?_|apply B5|refine B8 ?_|refine Cl ?_|refine Cg ?_)
          rw [e9];exact⟨rfl,⟨i,(FA rec 4 s.nx),kbL,kcL,HCL,HLL⟩,CA (by repeat first|exact Sub.nil _|refine Sub.cons rfl ?_),⟨by dsimp only;omega,Ei,GZ,osLL,hFl,by dsimp only;rw [hFk];exact J1,by dsimp only;omega,by dsimp only;omega⟩,by dsimp only;omega⟩
        · have e:Eb bs p.own rec n s.nx=(Jj rec s.nx):=by simp only [Eb,h]
          rw [e] at Ei hFl hFk hFo hFa
          have hq:SL.T Tryz.prog 101 [pM p,i64 d] [mC p (s.at_+1) s.loops kb s.code.length kc,HC,HL,J] (MQ p J (Jj rec s.nx)):=TK p J L A X d rec Ab SN (hB rfl) Ab Ab s.nx h150 J1 (by show s.at_+1≤X;omega) WK HC kb kc HL FK G9
          repeat' (first|apply B4|refine B3 0 BY Af ?_|refine B3 1 BY Aw ?_|refine Cs 2 BY Ao Ab ?_|refine CE 2 BY Ao Ab ?_|(refine gk 4 rfl ?_;(refine B9 rfl rfl rfl rfl rfl rfl rfl rfl (hq) ?_;rintro _ _ ⟨HCL,kbL,kcL,HLL,rfl,rfl,GZ,osLL⟩;refine⟨_,_,rfl,rfl,?_⟩))|refine B0 ?_|apply B5|refine B8 ?_|refine Cl ?_|refine Cg ?_)
          rw [e9];exact⟨rfl,⟨i,(Jj rec s.nx),kbL,kcL,HCL,HLL⟩,CA (by repeat first|exact Sub.nil _|refine Sub.cons rfl ?_),⟨by dsimp only;omega,Ei,GZ,osLL,hFl,by dsimp only;rw [hFk];exact J1,by dsimp only;omega,by dsimp only;omega⟩,by dsimp only;omega⟩
        · have e:Eb bs p.own rec n s.nx=(HZ bs rec s.nx):=by simp only [Eb,h]
          rw [e] at Ei hFl hFk hFo hFa
          have hq:SL.T Tryz.prog 102 [pM p,i64 d] [mC p (s.at_+1) s.loops kb s.code.length kc,HC,HL,J] (MQ p J (HZ bs rec s.nx)):=Uf p J bs L A X d rec Ab SN (hB rfl) Ab Ab J4 Km hb s.nx h150 J1 (by show s.at_+1+1≤X;omega) hX WK HC kb kc HL FK G9
          repeat' (first|apply B4|refine B3 0 BY Af ?_|refine B3 1 BY Aw ?_|refine Cs 2 BY Ao Ab ?_|refine CE 2 BY Ao Ab ?_|(refine gk 4 rfl ?_;(refine B9 rfl rfl rfl rfl rfl rfl rfl rfl (hq) ?_;rintro _ _ ⟨HCL,kbL,kcL,HLL,rfl,rfl,GZ,osLL⟩;refine⟨_,_,rfl,rfl,?_⟩))|refine B0 ?_|apply B5|refine B8 ?_|refine Cl ?_|refine Cg ?_)
          rw [e9];exact⟨rfl,⟨i,(HZ bs rec s.nx),kbL,kcL,HCL,HLL⟩,CA (by repeat first|exact Sub.nil _|refine Sub.cons rfl ?_),⟨by dsimp only;omega,Ei,GZ,osLL,hFl,by dsimp only;rw [hFk];exact J1,by dsimp only;omega,by dsimp only;omega⟩,by dsimp only;omega⟩
        · have e:Eb bs p.own rec n s.nx=(FT p.own (17+((n/12%2:Nat):Int)) s.nx):=by simp only [Eb,h]
          rw [e] at Ei hFl hFk hFo hFa
          have hq:SL.T Tryz.prog 103 [pM p,i64 (17+((n/12%2:Nat):Int))] [mC p (s.at_+1) s.loops kb s.code.length kc,HC,HL,J] (MQ p J (FT p.own (17+((n/12%2:Nat):Int)) s.nx)):=Tn p J s.nx (by show s.code.length≤_;omega) _ Yr HC kb kc HL FK G9
          repeat' (first|refine Cq rfl rfl rfl (Dm (b:=2) rfl rfl rfl Ae) ?_|refine Cq rfl rfl rfl (NV (b:=12) rfl rfl rfl Ae Ab) ?_|apply B4|refine B3 0 BY Af ?_|refine B3 1 BY (by first|exact GN rfl rfl rfl Ab Ab|exact JS rfl rfl rfl Ab Ab) ?_|refine CE 2 BY Ao Ab ?_|(refine gk 4 rfl ?_;(refine B9 rfl rfl rfl rfl rfl rfl rfl rfl (hq) ?_;rintro _ _ ⟨HCL,kbL,kcL,HLL,rfl,rfl,GZ,osLL⟩;refine⟨_,_,rfl,rfl,?_⟩))|refine B0 ?_|apply B5|refine B8 ?_|refine Cg ?_)
          rw [e9];exact⟨rfl,⟨i,(FT p.own (17+((n/12%2:Nat):Int)) s.nx),kbL,kcL,HCL,HLL⟩,CA (by repeat first|exact Sub.nil _|refine Sub.cons rfl ?_),⟨by dsimp only;omega,Ei,GZ,osLL,hFl,by dsimp only;rw [hFk];exact J1,by dsimp only;omega,by dsimp only;omega⟩,by dsimp only;omega⟩
    · rw [if_neg h150] at Ei
      subst Ei
      repeat' (first|apply B4|refine B3 0 BY AT ?_|refine Cs 2 BY Bc Ab ?_|refine CE 2 BY Aj Ab ?_|refine B3 3 BY Ah ?_|refine B3 4 BY Ag ?_|refine B3 5 BY Al ?_|refine B0 ?_|apply B5|refine B8 ?_|refine Cg ?_|refine CC ?_|refine Fl ?_|refine Fp ?_)
      exact GB [mB p s kb kc,HC,HL,J] CU ⟨HC,kb,kc,HL,rfl,rfl,FK,G9⟩
end Go.Proofs.YtcnmnmjmpocepaaGreatDoor
