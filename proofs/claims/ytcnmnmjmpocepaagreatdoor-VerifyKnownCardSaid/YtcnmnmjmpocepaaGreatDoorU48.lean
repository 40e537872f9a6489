
import Derived.Test.YtcnmnmjmpocepaaGreatDoorU00
import Derived.Test.YtcnmnmjmpocepaaGreatDoorU11
import Derived.Test.YtcnmnmjmpocepaaGreatDoorU36
set_option linter.unusedVariables false
set_option linter.unusedSimpArgs false
set_option linter.unusedSectionVars false
set_option maxRecDepth 100000
set_option maxHeartbeats 16000000
section
namespace Go.Proofs.YtcnmnmjmpocepaaGreatDoor
open Go.SL
open Kd
def meetsL:List Ins:= [Ez 0 1,Ez 7 5,Ez 9 0,Ez 3 0,Ez 6 7,Ez 0 3,Ez 3 0,Ez 0 0,Ez 20 0]
def usedL:List Ins:= [Ez 0 1,Ez 7 5,Ez 9 0,Ez 3 0,Ez 6 7,Ez 0 3,Ez 3 0,Ez 2 0,Ez 20 0]
def loopL:List Ins:= [Ez 0 5,Ez 3 1,Ez 2 1,Ez 7 9,Ez 2 1,Ez 0 1,Ez 5 0,Ez 3 1,Ez 6 2,Ez 2 1,Ez 20 0]
def deadL:List Ins:= [Ez 0 0,Ez 20 0,Ez 4 0,Ez 6 0]
def wildL:List Ins:= [Ez 0 0,Ez 20 0,Ez 6 9]
def twoI(l:List Ins):Im:=⟨[[]],[⟨[],0,1,[Ez 0 0,Ez 20 0]⟩,⟨[0],1,1,l⟩]⟩
theorem k_meets:DC (Ec meetsL)=none:=EA (k:=60) (by decide +kernel)
theorem k_used:DC (Ec usedL)=some (9,0,7):=EA (k:=60) (by decide +kernel)
theorem k_loop:DC (Ec loopL)=none:=EA (k:=80) (by decide +kernel)
theorem k_dead:DC (Ec deadL)=none:=EA (k:=60) (by decide +kernel)
theorem k_wild:DC (Ec wildL)=some (8,0,2):=EA (k:=60) (by decide +kernel)
theorem k_two:DC (twoI [Ez 2 0,Ez 12 0])=some (8,1,1):=EA (k:=60) (by decide +kernel)
theorem k_far:DC (twoI [Ez 2 0,Ez 12 0,Ez 0 0,Ez 20 0])=some (9,1,1):=EA (k:=60) (by decide +kernel)
theorem k_none:DC ⟨[],[]⟩=none:=EA (k:=60) (by decide +kernel)
def deadS:Fs:= [some ([-1, -1],[]),some ([-1, -1],[0]),none,none]
theorem k_frames:Ge (Ec deadL) 0 ⟨[],2,2,deadL⟩= .ok deadS:=KS (k:=9) Ae Ac
theorem k_bytes:Cd.Mu [68,75]= .error 0:=by kernel_rfl
theorem imB_onlyK{K:B6}{l:List Ins}{n c:Nat}{base DF mb:Option Addr}(hn:l.length=n)(hc:n≤c)(DE:n≤1000000)(h1:Sl K DF [.slice none 0 0])(h2:Sl K mb [.slice none 0 0,i64 2,i64 2,.slice base n c])(h3:Sl K base (Cp l)):Zd K (Ec l) (F8 DF 1 1 mb 1 1):=by
  refine⟨DF,1,1,mb,1,1,rfl,⟨_,h1,rfl,rfl,by decide,fun i f hf=> ?_⟩,⟨_,h2,rfl,rfl,by decide,fun i m hm=> ?_⟩,fun m hm=> ?_⟩
  · cases i with
    |zero=>simp [Ec] at hf;subst hf;exact⟨none,0,0,rfl,Sl.none,rfl,by decide⟩
    |succ i=>simp [Ec] at hf
  · cases i with
    |zero=>simp [Ec] at hm;subst hm;exact⟨none,0,0,_,n,c,rfl,rfl,rfl,rfl,Sl.none,rfl,by decide,h3,hn,by omega⟩
    |succ i=>simp [Ec] at hm
  · simp [Ec] at hm;subst hm;dsimp only;omega
theorem imB_two{K:B6}{l:List Ins}{n c cA:Nat}{bA bB bP DF mb:Option Addr}{cM:Nat}(hn:l.length=n)(DE:n≤1000000)(h1:Sl K DF [.slice none 0 0])(h2:Sl K mb [.slice none 0 0,i64 0,i64 1,.slice bA 2 cA,.slice bP 1 1,i64 1,i64 1,.slice bB n c])
    (h3:Sl K bA (Cp [Ez 0 0,Ez 20 0])) (h4:Sl K bP [i64 0]) (h5:Sl K bB (Cp l)):Zd K (twoI l) (F8 DF 1 1 mb 2 cM):=by
  refine⟨DF,1,1,mb,2,cM,rfl,⟨_,h1,rfl,rfl,by decide,fun i f hf=> ?_⟩,⟨_,h2,rfl,rfl,by decide,fun i m hm=> ?_⟩,fun m hm=> ?_⟩
  · cases i with
    |zero=>simp [twoI] at hf;subst hf;exact⟨none,0,0,rfl,Sl.none,rfl,by decide⟩
    |succ i=>simp [twoI] at hf
  · rcases i with _|_|i
    · simp [twoI] at hm;subst hm;exact⟨none,0,0,_,2,cA,rfl,rfl,rfl,rfl,Sl.none,rfl,by decide,h3,rfl,by decide⟩
    · simp [twoI] at hm;subst hm;exact⟨bP,1,1,_,n,c,rfl,rfl,rfl,rfl,h4,rfl,by decide,h5,hn,by omega⟩
    · simp [twoI] at hm
  · simp only [twoI,List.mem_cons,List.not_mem_nil,or_false] at hm
    rcases hm with rfl|rfl <;>dsimp only
    · decide
    · omega
theorem swp_mergeL{P:Program}{r:Option Nat}{F:B6}{n:Nat}{c:Code}{Q:C4}{env:Env}{own rest:List B6}{ds:List Deferred}(hs:List B6) [t:C1 own hs rest]
    (h:∀J,(∀k∈hs,hle k J)->Db P r F n c Q env (J::rest) ds):Db P r F n c Q env own ds:=by
  intro a w ha hd s;have s2:Sat (hs++(rest++ [F])) w:=s.perm (by
    have h1:(F::own).Perm (own++ [F]):=List.perm_append_comm (l₁:= [F]) (l₂:=own);refine h1.trans ?_;rw [<-List.append_assoc];exact t.perm.append_right [F])
  have d:hs.Pairwise DM:=(List.pairwise_append.1 s2.dj).1;refine h (CB hs) (fun k hk=>DV d hk) a w ha hd (s2.CB.perm ?_);exact List.perm_append_comm (l₁:=CB hs::rest) (l₂:= [F])
attribute [local irreducible] SL.T C7 Dc C6 Db DS Du
theorem only_rawK(K:B6)(base:Option Addr)(n c:Nat):SL.T Tryz.prog 23 [.slice base n c] [K] fun e o=>
    ∃A N,o=N++A/\A= []/\∃βc E7,N= [K,Co βc (.cells ⟨[.slice none 0 0]⟩ 76 (0,0)),Co E7 (.cells ⟨[.slice none 0 0,i64 2,i64 2,.slice base n c]⟩ 66 (0,0))]/\e= .returned (F8 (some ⟨βc,0,none⟩) 1 1 (some ⟨E7,0,none⟩) 1 1):=by
  refine Ch Tryz.func23 rfl (Nat.le_of_ble_eq_true rfl) fun F=> ?_
  repeat' (first|apply B4|refine B3 0 BY Am ?_|refine B3 5 BY Ar ?_|refine Cm (fun b=> ?_)|refine Cn (fun β=> ?_)|refine Ck ?_|refine B0 ?_|apply B5|refine B8 ?_|apply Cb)
  obtain⟨bm,rfl⟩:∃x,x=b:=⟨_,rfl⟩;obtain⟨bc,rfl⟩:∃x,x=b:=⟨_,rfl⟩;exact Cj [K,Co bc (.cells ⟨[.slice none 0 0]⟩ 76 (0,0)),Co bm (.cells ⟨[.slice none 0 0,i64 2,i64 2,.slice base n c]⟩ 66 (0,0))] (Ce (Cv rfl rfl rfl rfl)) ⟨[],_,(List.append_nil _).symm,rfl,bc,bm,rfl,rfl⟩
theorem only_K(K:B6)(base:Option Addr)(n c:Nat)(l:List Ins)(s:Sl K base (Cp l))(hn:l.length=n)(hc:n≤c)(DE:n≤1000000):SL.T Tryz.prog 23 [.slice base n c] [K] fun e o=>
    ∃K' a b,o= [K']/\e= .returned (F8 a 1 1 b 1 1)/\Zd K' (Ec l) (F8 a 1 1 b 1 1)/\Sl K' b [.slice none 0 0,i64 2,i64 2,.slice base n c]/\Sl K' base (Cp l):=by
  refine(Y8 (R:=fun e A N=>A= []/\∃βc E7,N= [K,Co βc (.cells ⟨[.slice none 0 0]⟩ 76 (0,0)),Co E7 (.cells ⟨[.slice none 0 0,i64 2,i64 2,.slice base n c]⟩ 66 (0,0))]/\e= .returned (F8 (some ⟨βc,0,none⟩) 1 1 (some ⟨E7,0,none⟩) 1 1)) (only_rawK K base n c)).mono ?_;rintro e o ⟨A,N,K1,rfl,hK,rfl,βc,E7,rfl,rfl⟩;have k1:=hK K Ak;have k2:=hK (Co βc (.cells ⟨[.slice none 0 0]⟩ 76 (0,0))) Ak;have k3:=hK (Co E7 (.cells ⟨[.slice none 0 0,i64 2,i64 2,.slice base n c]⟩ 66 (0,0))) Ak;exact⟨K1,_,_,rfl,rfl,imB_onlyK hn hc DE (Sl.Co.mono k2) (Sl.Co.mono k3) (s.mono k1),Sl.Co.mono k3,s.mono k1⟩
theorem chk(K:B6)(im:Im)(a b:Option Addr)(n m c d:Nat)(h:Zd K im (F8 a n c b m d)):SL.T Tryz.prog 12 [F8 a n c b m d] [K] (fT K (DC im)):=by
  obtain⟨y1,y2,y3,y4,y5,y6,hv,ET,HM,GH⟩:=h;cases hv;exact Ey K im a b n c m d ET HM GH
theorem fails_K{G:B6} [sg:Cd.Zg G](K:B6)(im:Im)(a b:Option Addr)(c at_:Int)(hB:Zd K im (F8 a 1 1 b 1 1))(hc:c≠0)(WO:DC im=some (c,0,at_)):
    SL.T Tryz.prog 25 [F8 a 1 1 b 1 1,i64 c,i64 at_] [K,G] fun e o=>∃K',o= [K',G]/\hle K K'/\e= .returned (.bool true):=by
  have hC:=chk K im a b 1 1 1 1 hB;rw [WO] at hC
  refine Ch Tryz.func25 rfl (Nat.le_of_ble_eq_true rfl) fun F=> ?_
  repeat' (first|apply B4|refine B3 0 BY Af ?_|refine B3 3 BY Az ?_|(refine gk 4 rfl ?_;(refine B9 rfl rfl rfl rfl rfl rfl rfl rfl (hC) ?_;rintro _ _ ⟨K',D6,rfl,lK,rfl⟩;refine⟨_,_,rfl,rfl,?_⟩))|refine B3 5 BY Ar ?_|refine CF (fun β=> ?_)|refine B0 ?_|apply B5)
  have hl:=QQ (G:=G) D6 c 0 at_ hc
  repeat' (first|refine B3 0 BY Au ?_|refine B3 4 BY (Ca rfl rfl rfl rfl rfl (hl)) ?_|apply B5|refine B8 ?_|apply Cb)
  exact Cj [K',G] (Ce (B7 rfl)) ⟨K',rfl,lK,rfl⟩
end Go.Proofs.YtcnmnmjmpocepaaGreatDoor
end
section
namespace Go.Proofs.YtcnmnmjmpocepaaGreatDoor
open Go.SL
open Kd
theorem only_B(Ha n c:Nat)(cs:List Value)(l:List Ins)(L2:cs=Cp l)(hn:l.length=n)(hc:n≤c)(DE:n≤1000000):SL.T Tryz.prog 23 [.slice (some ⟨Ha,0,none⟩) n c] [Co Ha (.cells ⟨cs⟩ 24 (0,0))] fun e o=>
    ∃K' a b,o= [K']/\e= .returned (F8 a 1 1 b 1 1)/\Zd K' (Ec l) (F8 a 1 1 b 1 1)/\Sl K' b [.slice none 0 0,i64 2,i64 2,.slice (some ⟨Ha,0,none⟩) n c]/\Sl K' (some ⟨Ha,0,none⟩) (Cp l):=by
  subst L2;exact only_K _ _ n c l Sl.Co hn hc DE
attribute [local irreducible] SL.T C7 Dc C6 Db DS Du
theorem known_law{H:B6} [sg:Cd.Zg H]:C7 Tryz.prog 7 [] [H] (.bool true):=by
  refine Ci Tryz.func7 rfl (Nat.le_of_ble_eq_true rfl) fun F=> ?_
  repeat' ((fail_if_success (refine Ea 3 ?_));(first|apply B4|refine B3 0 BY Au ?_|refine B3 4 BY (Ca rfl rfl rfl rfl rfl (Gy _ _)) ?_|(refine gk 4 rfl ?_;(refine B9 rfl rfl rfl rfl rfl rfl rfl rfl (only_B _ 9 9 [i64 0,i64 1,i64 0,i64 7,i64 5,i64 0,i64 9,i64 0,i64 0,i64 3,i64 0,i64 0,i64 6,i64 7,i64 0,i64 0,i64 3,i64 0,i64 3,i64 0,i64 0,i64 0,i64 0,i64 0,i64 20,i64 0,i64 0] meetsL rfl rfl Ae Ae) ?_;rintro _ _ ⟨K1,a1,b1,rfl,rfl,dV,hC1,hD1⟩;refine⟨_,_,rfl,rfl,?_⟩))|refine B3 5 BY Ar ?_|refine Cm (fun b=> ?_)|refine Cn (fun β=> ?_)|refine Ck ?_|refine B0 ?_|apply B5))
  obtain⟨DZ,rfl⟩:∃x,x=β:=⟨_,rfl⟩
  rename_i bC
  obtain⟨bA,rfl⟩:∃x,x=b:=⟨_,rfl⟩;haveI:=hC1;have fe:Int.toNat 0*4<([Value.slice none 0 0,i64 2,i64 2,Value.slice (some ⟨bA,0,none⟩) 9 9]:List Value).length:=by simp
  haveI hE1:=hD1.take 21;have eS:((Cp meetsL).take 21).length=7*3:=rfl;have oS:((Cp meetsL).take 21).all (·.oneCell')=true:=rfl
  repeat' ((fail_if_success (refine Ea 10 ?_));(first|apply B4|refine B3 0 BY Am ?_|refine B3 3 BY (by first|exact DI rfl Aa rfl Aa|exact CV rfl rfl|exact D5 rfl Aa rfl Aa Aa|exact CD rfl rfl rfl Ab Ab Ab|exact EX rfl rfl Ad|exact D2 rfl Aa Ai Aa) ?_|refine B3 4 BY (Ca rfl rfl rfl rfl rfl (Gy _ _)) ?_|(refine gk 4 rfl ?_;(refine Ff (h:=Co _ (.cells ⟨[]⟩ 24 (0,0))) rfl rfl rfl rfl rfl rfl rfl rfl rfl (OS.Co (len:=0) rfl) eS Ae oS Ab Ab (fun hB bB cB Ro WH=> ?_)))|refine gk 4 rfl (Ff rfl rfl rfl rfl rfl rfl rfl rfl rfl Ad As Ae As Ab Ab (fun hU bU cU jS nH=> ?_))|(refine gk 4 rfl ?_;(refine B9 rfl rfl rfl rfl rfl rfl rfl rfl (only_K hU bU _ cU usedL jS.sl rfl jS.hle Ae) ?_;rintro _ _ ⟨K2,a2,b2,rfl,rfl,hB2,hC2,hD2⟩;refine⟨_,_,rfl,rfl,?_⟩))|(refine gk 4 rfl ?_;(refine B9 rfl rfl rfl rfl rfl rfl rfl rfl (only_B _ 11 11 [i64 0,i64 5,i64 0,i64 3,i64 1,i64 0,i64 2,i64 1,i64 0,i64 7,i64 9,i64 0,i64 2,i64 1,i64 0,i64 0,i64 1,i64 0,i64 5,i64 0,i64 0,i64 3,i64 1,i64 0,i64 6,i64 2,i64 0,i64 2,i64 1,i64 0,i64 20,i64 0,i64 0] loopL rfl rfl Ae Ae) ?_;rintro _ _ ⟨K3,a3,b3,rfl,rfl,hB3,hC3,hD3⟩;refine⟨_,_,rfl,rfl,?_⟩))|(refine gk 4 rfl ?_;(refine B9 rfl rfl rfl rfl rfl rfl rfl rfl (only_B _ 4 4 [i64 0,i64 0,i64 0,i64 20,i64 0,i64 0,i64 4,i64 0,i64 0,i64 6,i64 0,i64 0] deadL rfl rfl Ae Ae) ?_;rintro _ _ ⟨K4,a4,b4,rfl,rfl,hB4,hC4,hD4⟩;refine⟨_,_,rfl,rfl,?_⟩))|(refine gk 4 rfl ?_;(refine B9 rfl rfl rfl rfl rfl rfl rfl rfl (only_B _ 3 3 [i64 0,i64 0,i64 0,i64 20,i64 0,i64 0,i64 6,i64 9,i64 0] wildL rfl rfl Ae Ae) ?_;rintro _ _ ⟨K5,a5,b5,rfl,rfl,hB5,hC5,hD5⟩;refine⟨_,_,rfl,rfl,?_⟩))|(refine gk 4 rfl ?_;(refine Ff (h:=Co _ (.cells ⟨[]⟩ 66 (0,0))) rfl rfl rfl rfl rfl rfl rfl rfl rfl (OS.Co (len:=0) rfl) rfl Ae rfl Ab Ab (fun hM bM cM Xc dR=> ?_)))|refine B3 5 BY (by first|exact GM rfl rfl Aa|exact Gl rfl rfl rfl Ab Ab) ?_|refine Cm (fun b=> ?_)|refine Cn (fun β=> ?_)|refine Ck ?_|refine B0 ?_|apply B5))
  rename_i DD bK bP bL bT gK
  obtain⟨kp,rfl⟩:∃x,x=β:=⟨_,rfl⟩;have Xc:OS hM bM 2 cM 66 4 [.slice none 0 0,i64 0,i64 1,.slice (some ⟨bK,0,none⟩) 2 2,.slice (some ⟨bP,0,none⟩) 1 1,i64 1,i64 1,.slice (some ⟨bL,0,none⟩) 2 2]:=Xc;haveI slM:=Xc.sl;have br:Int.toNat 1*4<([.slice none 0 0,i64 0,i64 1,.slice (some ⟨bK,0,none⟩) 2 2,.slice (some ⟨bP,0,none⟩) 1 1,i64 1,i64 1,.slice (some ⟨bL,0,none⟩) 2 2]:List Value).length:=by simp
  repeat' (first|apply B4)
  refine Cu [.q [0,1],.h false 2,.h false 3,.h false 4,.h false 5,.an 6,.rv 6,.q [7,8],.h true 9] [Co kp (.cells ⟨[.slice (some ⟨bC,0,none⟩) 1 1,.slice bM (0+2) cM]⟩ 32 (0,0))] Ac Ac Ac Ac ?_
  repeat' ((fail_if_success (refine Ea 11 ?_));(first|refine B3 3 BY Bz ?_|refine Cz ?_|refine CQ rfl ?_|refine Dg rfl rfl AQ ?_|refine DL rfl rfl rfl (fun β=> ?_)|refine Jb rfl rfl rfl rfl rfl rfl rfl rfl (Gy _ _) rfl ?_|refine D3 rfl rfl rfl rfl rfl rfl Xc rfl rfl rfl Ak Ak rfl (fun OX Kb=> ?_)|apply B5))
  obtain⟨bN,rfl⟩:∃x,x=β:=⟨_,rfl⟩;have Kb:OS OX bM 2 cM 66 4 [.slice none 0 0,i64 0,i64 1,.slice (some ⟨bK,0,none⟩) 2 2,.slice (some ⟨bP,0,none⟩) 1 1,i64 1,i64 1,.slice (some ⟨bN,0,none⟩) 4 4]:=Kb;refine swp_mergeL [Co bC (.cells ⟨[.slice none 0 0]⟩ 76 (0,0)),Co bT (.cells ⟨[.slice none 0 0,i64 0,i64 1,.slice (some ⟨bK,0,none⟩) 2 2,.slice (some ⟨bP,0,none⟩) 1 1,i64 1,i64 1,.slice (some ⟨bL,0,none⟩) 2 2]⟩ 66 (0,0)),
    Co bK (.cells ⟨[i64 0,i64 0,i64 0,i64 20,i64 0,i64 0]⟩ 24 (0,0)),Co bP (.cells ⟨[i64 0]⟩ 79 (0,0)),Co bL (.cells ⟨[i64 2,i64 0,i64 0,i64 12,i64 0,i64 0]⟩ 24 (0,0)),OX,Co bN (.cells ⟨[i64 2,i64 0,i64 0,i64 12,i64 0,i64 0,i64 0,i64 0,i64 0,i64 20,i64 0,i64 0]⟩ 24 (0,0))] fun J hJ=> ?_
  have sC:Sl J (some ⟨bC,0,none⟩) [.slice none 0 0]:=Sl.Co.mono (hJ (Co bC _) (List.mem_cons_self ..));have sT:Sl J (some ⟨bT,0,none⟩) _:=Sl.Co.mono (hJ (Co bT _) (List.mem_cons_of_mem _ (List.mem_cons_self ..)));have sK:Sl J (some ⟨bK,0,none⟩) (Cp [Ez 0 0,Ez 20 0]):=Sl.Co.mono (hJ (Co bK _) (List.mem_cons_of_mem _ (List.mem_cons_of_mem _ (List.mem_cons_self ..))));have sP:Sl J (some ⟨bP,0,none⟩) [i64 0]:=Sl.Co.mono (hJ (Co bP _) (List.mem_cons_of_mem _ (List.mem_cons_of_mem _ (List.mem_cons_of_mem _ (List.mem_cons_self ..)))));have sL:Sl J (some ⟨bL,0,none⟩) (Cp [Ez 2 0,Ez 12 0]):=Sl.Co.mono (hJ (Co bL _) (List.mem_cons_of_mem _ (List.mem_cons_of_mem _ (List.mem_cons_of_mem _ (List.mem_cons_of_mem _ (List.mem_cons_self ..))))));have sM:Sl J bM _:=Kb.sl.mono (hJ OX Ak);have sN:Sl J (some ⟨bN,0,none⟩) (Cp [Ez 2 0,Ez 12 0,Ez 0 0,Ez 20 0]):=Sl.Co.mono (hJ (Co bN _) (List.mem_cons_of_mem _ (List.mem_cons_of_mem _ (List.mem_cons_of_mem _ (List.mem_cons_of_mem _ (List.mem_cons_of_mem _ (List.mem_cons_of_mem _ (List.mem_cons_self ..))))))));have hTwo:=chk J _ _ _ 1 2 1 2 (imB_two rfl Ae sC sT sK sP sL);have hFar:=fun J2 (l:hle J J2)=>chk J2 _ _ _ 1 2 1 cM ((imB_two (cM:=cM) rfl Ae sC sM sK sP sN).mono l)
  have h1:=chk K1 _ _ _ _ _ _ _ dV;have h2:=fails_K (G:=H) K2 _ _ _ 9 7 hB2 Ae k_used;have h3:=chk K3 _ _ _ _ _ _ _ hB3;have h4:=chk K4 _ _ _ _ _ _ _ hB4;have h5:=fails_K (G:=H) K5 _ _ _ 8 2 hB5 Ae k_wild;rw [k_two] at hTwo
  simp only [k_far] at hFar
  rw [k_meets] at h1
  rw [k_loop] at h3
  rw [k_dead] at h4
  repeat' ((fail_if_success (refine Ea 12 ?_));(first|refine Cq rfl rfl rfl (PL rfl rfl) ?_|apply B4|refine B3 0 BY AJ ?_|refine B3 3 BY Az ?_|(refine gk 4 rfl ?_;(refine B9 rfl rfl rfl rfl rfl rfl rfl rfl (h1) ?_;rintro _ _ ⟨K1',rfl,Yi,rfl⟩;refine⟨_,_,rfl,rfl,?_⟩))|(refine gk 4 rfl ?_;(refine B9 rfl rfl rfl rfl rfl rfl rfl rfl (h2) ?_;rintro _ _ ⟨K2',rfl,lK2,rfl⟩;refine⟨_,_,rfl,rfl,?_⟩))|(refine gk 4 rfl ?_;(refine B9 rfl rfl rfl rfl rfl rfl rfl rfl (h3) ?_;rintro _ _ ⟨K3',rfl,lK3,rfl⟩;refine⟨_,_,rfl,rfl,?_⟩))|(refine gk 4 rfl ?_;(refine B9 rfl rfl rfl rfl rfl rfl rfl rfl (h4) ?_;rintro _ _ ⟨K4',rfl,lK4,rfl⟩;refine⟨_,_,rfl,rfl,?_⟩))|(refine gk 4 rfl ?_;(refine B9 rfl rfl rfl rfl rfl rfl rfl rfl (h5) ?_;rintro _ _ ⟨K5',rfl,lK5,rfl⟩;refine⟨_,_,rfl,rfl,?_⟩))|refine B0 ?_|apply B5))
  have hl:=fun β c=>QQ (G:=H) β c 1 1
  repeat' ((fail_if_success (refine Ea 13 ?_));(first|apply B4|refine B3 0 BY AJ ?_|refine B3 3 BY Az ?_|(refine gk 4 rfl ?_;(refine B9 rfl rfl rfl rfl rfl rfl rfl rfl (hTwo) ?_;rintro _ _ ⟨J2,D6,rfl,lJ,rfl⟩;refine⟨_,_,rfl,rfl,?_⟩))|(refine gk 4 rfl ?_;(refine B9 rfl rfl rfl rfl rfl rfl rfl rfl (hFar J2 lJ) ?_;rintro _ _ ⟨J3,βg,rfl,jV,rfl⟩;refine⟨_,_,rfl,rfl,?_⟩))|refine B3 4 BY (Ca rfl rfl rfl rfl rfl (hl D6 8 Ae)) ?_|refine B3 4 BY (Ca rfl rfl rfl rfl rfl (hl βg 9 Ae)) ?_|refine B3 5 BY Ar ?_|refine B0 ?_|apply B5))
  obtain⟨y1,y2,y3,y4,y5,y6,hv,ET,HM,GH⟩:=hB4.mono lK4;cases hv;have hP:=I7 K4' (Ec deadL) a4 b4 1 1 1 1 0 ET HM ⟨[],2,2,deadL⟩ Ae rfl Ae Ae;rw [k_frames] at hP
  have hP:SL.T Tryz.prog 15 [F8 a4 1 1 b4 1 1,i64 0] [K4'] (fP 4 0 K4' (.ok deadS)):=hP;have hV:=LU [68,75] Ae;rw [k_bytes] at hV
  have hw:=Ji (G:=H);have iK:=fun β=>Z5 (G:=H) β 0
  have hE:=chk emp ⟨[],[]⟩ none none 0 0 0 0 ⟨none,0,0,none,0,0,rfl,⟨[],Sl.none,rfl,rfl,by decide,fun i f h=>by simp at h⟩,⟨[],Sl.none,rfl,rfl,by decide,fun i f h=>by simp at h⟩,fun m h=>by simp at h⟩;rw [k_none] at hE
  repeat' ((fail_if_success (refine Ea 15 ?_));(first|apply B4|refine B3 0 BY AB ?_|refine B3 3 BY Az ?_|(refine gk 4 rfl ?_;(refine B9 rfl rfl rfl rfl rfl rfl rfl rfl (hP) ?_;rintro _ _ ⟨fb,hb1,HF,HH,K6,cs6,rfl,lK6,rfl,IL,IE,hF⟩;refine⟨_,_,rfl,rfl,?_⟩))|(refine gk 4 rfl ?_;(refine B9 rfl rfl rfl rfl rfl rfl rfl rfl (hV) ?_;rintro _ _ ⟨Rm,rfl,rfl⟩;refine⟨_,_,rfl,rfl,?_⟩))|refine Cn (fun β=> ?_)|refine Ck ?_|refine B0 ?_|apply B5))
  haveI Wb:=IE.sl;have hx1:(Dp deadS)[Int.toNat 1*1]?=some (.bool true):=rfl;have hx2:(Dp deadS)[Int.toNat 2*1]?=some (.bool false):=rfl;have hx3:Int.toNat 1*1<(Dp deadS).length:=by decide
  have hx4:Int.toNat 2*1<(Dp deadS).length:=by decide
  refine DY ?_
  repeat' (first|refine Cq rfl rfl rfl (PL rfl rfl) ?_|apply B4|refine B3 0 BY Bq ?_|refine Cs 2 BY Ao Ab ?_|refine B3 3 BY A8 ?_|refine B3 4 BY Ag ?_|refine B3 4 BY (Ca rfl rfl rfl rfl rfl (hw)) ?_|refine B3 4 BY (Ca rfl rfl rfl rfl rfl (iK Rm)) ?_|(refine gk 4 rfl ?_;(refine B9 rfl rfl rfl rfl rfl rfl rfl rfl (hE) ?_;rintro _ _ ⟨K7,rfl,lK7,rfl⟩;refine⟨_,_,rfl,rfl,?_⟩))|refine B3 5 BY Ar ?_|refine B0 ?_|apply B5|refine B8 ?_|apply Cb)
  exact Cj [H] (Ce (B7 rfl)) ⟨rfl,rfl⟩
end Go.Proofs.YtcnmnmjmpocepaaGreatDoor
end
