
import Derived.Test.YtcnmnmjmpocepaaGreatDoorV00
import Derived.Test.YtcnmnmjmpocepaaGreatDoorV09
import Derived.Test.YtcnmnmjmpocepaaGreatDoorV21
import Derived.Test.YtcnmnmjmpocepaaGreatDoorV27
set_option linter.unusedVariables false
set_option linter.unusedSimpArgs false
set_option linter.unusedSectionVars false
set_option maxRecDepth 100000
set_option maxHeartbeats 16000000
section
namespace Go.Proofs.YtcnmnmjmpocepaaGreatDoor
open Go.SL
open Kd
abbrev Rc(x:Nat):Value:= .int .u8 (x:Int)
structure IZ where
  FT:Nat
  bb:Option Addr
  bn:Nat
  bc:Nat
  own:Nat
  lb:Option Addr
abbrev mC(p:IZ)(at_ loops:Nat)(kb:Option Addr)(kn kc:Nat):CA:=
  CV p.FT (.cells ⟨[.slice p.bb p.bn p.bc,i64 (at_:Int),i64 (p.own:Int),.slice kb kn kc,.slice p.lb 5 5,i64 (loops:Int)]⟩ 136 (0,0))
abbrev mB(p:IZ)(s:Mk)(kb:Option Addr)(kc:Nat):CA:=mC p s.at_ s.loops kb s.code.length kc
abbrev pM(p:IZ):Value:= .pointer (some ⟨p.FT,0,none⟩)
abbrev RA(l:List Bool):List Value:=l.map .bool
def MQ(p:IZ)(J:CA)(s':Mk)(e:Ending)(o:List CA):Prop:=
  ∃HC kb kc HL,o= [mB p s' kb kc,HC,HL,J]/\e= .returned (.tuple #[])/\OS HC kb s'.code.length kc 24 3 (CZ s'.code)/\OS HL p.lb 5 5 4 1 (RA s'.locked)
def MT(p:IZ)(J:CA)(f:FuncId)(args:List Value)(s s':Mk):Prop:=
  ∀HC kb kc HL,OS HC kb s.code.length kc 24 3 (CZ s.code)->OS HL p.lb 5 5 4 1 (RA s.locked)->SL.T Tryz.prog f (pM p::args) [mB p s kb kc,HC,HL,J] (MQ p J s')
def Ju(l:List (Int×Int)):List Value:=l.flatMap fun x=> [i64 x.1,i64 x.2]
theorem Nu:∀(l:List (Int×Int)),(Ju l).length=2*l.length
  | []=>rfl
  | x::l=>by
    have:=Nu l;simp [Ju] at this ⊢;omega
theorem VJ:∀ {l:List (Int×Int)} {i:Nat} {x:Int×Int},l[i]?=some x->(Ju l)[2*i]?=some (i64 x.1)/\(Ju l)[2*i+1]?=some (i64 x.2)
  | [],i,x,h=>by simp at h
  |y::l,0,x,h=>by simp at h;subst h;simp [Ju]
  | y::l,i+1,x,h=>by
    have:=VJ (l:=l) (i:=i) (x:=x) (by simpa using h);have e:2*(i+1)=2*i+1+1:=by omega
    rw [e];simpa [Ju] using this
theorem F9:∀(l m:List Ins),CZ (l++m)=CZ l++CZ m
  | [],m=>rfl
  |x::l,m=>by simp [CZ,F9 l m]
theorem Xv(l:List (Int×Int))(j:Nat)(x:Int×Int)(h:l[j]?=some x):Is (l.take (j+1))=Is (l.take j)++ [⟨x.1,x.2,0⟩]:=by
  rw [List.take_add_one,h];simp [Is]
theorem D1{P:Program}{own:List CA}{n:Nat}{o:Oper}{env:Env}{t u:TypeId}{x y:Operand}{k:IntKind}{a b:Nat}(ho:o.op= .binOp .rem t x y u)(hx:ev env x=some (.int k (a:Int)))(hy:ev env y=some (.int k (b:Int)))(hb:0<b):DG P own n o env (.int k ((a%b:Nat):Int)):=by
  have h:=Jo (P:=P) (own:=own) (n:=n) ho hx hy Ab;have e:Int.tmod (a:Int) (b:Int)=((a%b:Nat):Int):=by rw [Int.tmod_eq_emod_of_nonneg Ab];omega
  rwa [e] at h
theorem P5{P:Program}{own:List CA}{n:Nat}{o:Oper}{env:Env}{t u:TypeId}{x y:Operand}{a b:Nat}(ho:o.op= .binOp .quo t x y u)(hx:ev env x=some (.int .i64 (a:Int)))(hy:ev env y=some (.int .i64 (b:Int)))(hb:0<b)(ha:a≤1000000):DG P own n o env (.int .i64 ((a/b:Nat):Int)):=by
  have h:=TI (P:=P) (own:=own) (n:=n) ho hx hy Ab;have hle:a/b≤a:=Nat.div_le_self a b;have e:IntKind.i64.wrap (Int.tdiv (a:Int) (b:Int))=((a/b:Nat):Int):=by
    rw [Int.tdiv_eq_ediv_of_nonneg Ab,<-Int.natCast_ediv]
    generalize a/b=q at hle
    exact Dz Ab Ab
  rwa [e] at h
structure SP where
  j:Nat
  len:Nat
  H:CA
  kb:Option Addr
  kc:Nat
attribute [local irreducible] SL.T Dw DG DE DI Et D0
theorem ID(p:IZ)(J:CA)(b:List Nat)(at_ loops:Nat)(kb:Option Addr)(kn kc:Nat) [sl:Sl J p.bb (b.map Rc)](hl:b.length=p.bn)(FD:at_≤1000000)(DO:p.bn≤1000000)(hb:∀x∈b,x≤255):
    SL.T Tryz.prog 97 [pM p] [mC p at_ loops kb kn kc,J] fun e o=>o= [mC p (at_+1) loops kb kn kc,J]/\e= .returned (i64 (Dj b at_:Int)):=by
  by_cases h:at_<p.bn
  · obtain⟨x,hx⟩:∃z,b[at_]?=some z:=⟨_,List.getElem?_eq_getElem Ab⟩;have hx2:=hb x (List.mem_of_getElem? hx);have e:Dj b at_=x:=by simp [Dj,List.getD,hx]
    rw [e];have e2:(((at_+1:Nat):Int) - 1).toNat*1=at_:=by omega
    have hct:(b.map Rc)[(((at_+1:Nat):Int) - 1).toNat*1]?=some (Rc x):=by rw [e2];simp [hx]
    have hk:(((at_+1:Nat):Int) - 1).toNat*1<(b.map Rc).length:=by rw [e2];simp;omega
    have e1:((at_:Nat):Int)+1=((at_+1:Nat):Int):=by omega
    refine CM Tryz.func97 rfl (Nat.le_of_ble_eq_true rfl) fun F=> ?_
    repeat' (first|apply Cv|refine Ct 0 Cr Ag ?_|refine Ct 1 Cr Ao ?_|refine Ct 3 Cr Af ?_|refine Ct 5 Cr Ak ?_|refine CN ?_|refine Cu ?_|apply Cw)
    rw [e1];refine De Ac Ac rfl ?_
    repeat' (first|apply Cv|refine Ct 0 Cr Ap ?_|refine CY 2 Cr AQ Ab ?_|refine Ct 3 Cr Af ?_|refine Ct 4 Cr Ae ?_|refine Ct 5 Cr Ak ?_|apply Cw|refine Cy ?_|refine CF ?_|apply CB)
    refine De Ac Ac rfl ?_
    repeat' (first|refine CW rfl rfl rfl ((C8 rfl rfl).to (congrArg (Value.int .i64) (Dz Ab Ab))) ?_|refine Ct 0 Cr Ag ?_|refine Ct 1 Cr AF ?_|refine Ct 3 Cr AG ?_|refine Ct 5 Cr Ak ?_|apply Cw|refine Cy ?_|apply Cz)
    exact CJ [mC p (at_+1) loops kb kn kc,J] (CD (Cx rfl)) ⟨rfl,rfl⟩
  · have e:Dj b at_=0:=by simp [Dj,List.getD,List.getElem?_eq_none (show b.length≤at_ by omega)]
    rw [e];have e1:((at_:Nat):Int)+1=((at_+1:Nat):Int):=by omega
    refine CM Tryz.func97 rfl (Nat.le_of_ble_eq_true rfl) fun F=> ?_
    repeat' (first|apply Cv|refine Ct 0 Cr Ag ?_|refine Ct 1 Cr Ao ?_|refine Ct 3 Cr Af ?_|refine Ct 5 Cr Ak ?_|refine CN ?_|refine Cu ?_|apply Cw)
    rw [e1];refine De Ac Ac rfl ?_
    repeat' (first|apply Cv|refine Ct 0 Cr Ag ?_|refine CO 2 Cr AQ Ab ?_|refine Ct 3 Cr Af ?_|refine Ct 4 Cr Ae ?_|refine Ct 5 Cr Ak ?_|refine Cu ?_|apply Cw|refine Cy ?_|refine CH ?_|apply Cz|refine CQ ?_)
    exact CJ [mC p (at_+1) loops kb kn kc,J] (CD (Cx rfl)) ⟨rfl,rfl⟩
theorem Xc(p:IZ)(J:CA)(b:List Nat)(s:Mk)(kb:Option Addr)(kc:Nat) [sl:Sl J p.bb (b.map Rc)](hl:b.length=p.bn)(FD:s.at_≤1000000)(DO:p.bn≤1000000)(hb:∀x∈b,x≤255):
    SL.T Tryz.prog 97 [pM p] [mB p s kb kc,J] fun e o=>o= [mB p s.nx kb kc,J]/\e= .returned (i64 (Dj b s.at_:Int)):=
  ID p J b s.at_ s.loops kb s.code.length kc hl FD DO hb
theorem Fa(p:IZ)(s:Mk)(kb:Option Addr)(kc:Nat)(HC A:CA)(ab:Option Addr)(ac an:Nat)(l:List (Int×Int))(Ge:OS HC kb s.code.length kc 24 3 (CZ s.code))(mZ:Sl A ab (Ju l))(j0:an=2*l.length)(DO:s.code.length+l.length≤1000000):
    SL.T Tryz.prog 58 [pM p,.slice ab an ac] [mB p s kb kc,HC,A] fun e o=>∃HC' kb' kc',o= [mB p (s.put l) kb' kc',HC',A]/\e= .returned (.tuple #[])/\OS HC' kb' (s.put l).code.length kc' 24 3 (CZ (s.put l).code):=by
  subst j0;have hfl:=Nu l;refine CM Tryz.func58 rfl (Nat.le_of_ble_eq_true rfl) fun F=> ?_
  repeat' (first|apply Cv|refine Ct 0 Cr Au ?_|refine Cu ?_|apply Cw|refine Cy ?_|refine CC ?_)
  refine C4 (fun t:SP=> [(0,pM p),(1,.slice ab ((2*l.length:Nat)) ac),(4,i64 ((2*t.j:Nat):Int))]) (fun t=> [mC p s.at_ s.loops t.kb t.len t.kc,t.H,A])
    (fun t=>t.j≤l.length/\t.len=s.code.length+t.j/\OS t.H t.kb t.len t.kc 24 3 (CZ (s.code++Is (l.take t.j)))) (fun t=>l.length - t.j) ⟨0,s.code.length,HC,kb,kc⟩ (by repeat first|exact Sub.nil _|refine Sub.cons rfl ?_) ⟨Nat.zero_le _,rfl,by simpa [Is] using Ge⟩ ?_
  rintro⟨j,n,H,FH,FG⟩ ⟨hj,hn,os⟩;dsimp only at hj hn os ⊢
  by_cases ey:j<l.length
  · obtain⟨x,hx⟩:∃z,l[j]?=some z:=⟨_,List.getElem?_eq_getElem ey⟩;obtain⟨f1,f2⟩:=VJ hx;have e3:(((2*j:Nat):Int)+1).toNat*1=2*j+1:=by omega
    have e4:(((2*j:Nat):Int)).toNat*1=2*j:=by omega
    have L9:(Ju l)[(((2*j:Nat):Int)).toNat*1]?=some (i64 x.1):=by rw [e4];exact f1
    have L8:(Ju l)[(((2*j:Nat):Int)+1).toNat*1]?=some (i64 x.2):=by rw [e3];exact f2
    have Sz:(((2*j:Nat):Int)).toNat*1<(Ju l).length:=by omega
    have MU:(((2*j:Nat):Int)+1).toNat*1<(Ju l).length:=by omega
    repeat' (first|apply Cv|refine Ct 0 Cr Ap ?_|refine Ct 1 Cr Ao ?_|refine CO 2 Cr Aj Ab ?_|refine Ct 4 Cr Ae ?_|refine Cu ?_|apply Cw|refine Cy ?_|refine CH ?_|refine CC ?_|apply CB)
    refine C0 [.f [0],.q [1,2,3,4,5,6,7,8,9,10,11,12,13,14],.an 15,.rv 15,.h true 16,.q [17,18],.h true 19] [mC p s.at_ s.loops FH n FG,A] Ac Ac Ac Ac ?_
    repeat' (first|refine Ct 0 Cr Ag ?_|refine Ct 1 Cr Ao ?_|refine Ct 3 Cr AG ?_|refine Ct 5 Cr AX ?_|refine Cu ?_|refine C5 ?_|refine Dd rfl ?_|refine Fq rfl ?_|refine Dn rfl rfl AU ?_|refine DN rfl rfl rfl (fun β=> ?_)|refine Gc rfl (by decide +kernel) rfl rfl rfl rfl rfl Aa rfl Aa Aa ?_|refine FP rfl rfl rfl rfl rfl rfl rfl rfl rfl os Ah rfl Ah rfl Ab Ab (fun h' b' c' HS=> ?_)|apply Cw|refine Cy ?_)
    rw [show((2*j:Nat):Int)+2=((2*(j+1):Nat):Int) by omega];refine⟨rfl,⟨j+1,n+1,h',b',c'⟩,CX (by repeat first|exact Sub.nil _|refine Sub.cons rfl ?_),⟨ey,by dsimp only;omega,?_⟩,by dsimp only;omega⟩;dsimp only;rw [Xv l j x hx,<-List.append_assoc,F9];exact HS
  · obtain rfl:j=l.length:=by omega
    subst hn;rw [List.take_length] at os
    repeat' (first|apply Cv|refine Ct 0 Cr Ap ?_|refine Ct 1 Cr Ao ?_|refine CY 2 Cr Aj Ab ?_|refine Ct 4 Cr Ae ?_|refine Cu ?_|apply Cw|refine Cy ?_|refine CF ?_|refine C1 ?_|refine Gf ?_|refine Gh ?_)
    have hl:=DV s l;exact HR [mC p s.at_ s.loops FH (s.code.length+l.length) FG,H,A] Dt ⟨H,FH,FG,by rw [<-hl];rfl,rfl,by rw [hl];exact os⟩
theorem DT(p:IZ)(s:Mk)(kb:Option Addr)(kc:Nat)(HC:CA)(Ji ac an:Nat)(cs:List Value)(l:List (Int×Int))(Oi:cs=Ju l)(j0:an=2*l.length)(Ge:OS HC kb s.code.length kc 24 3 (CZ s.code))(DO:s.code.length+l.length≤1000000):
    SL.T Tryz.prog 58 [pM p,.slice (some ⟨Ji,0,none⟩) an ac] [mB p s kb kc,HC,CV Ji (.cells ⟨cs⟩ 3 (0,0))] fun e o=>∃HC' kb' kc',o= [mB p (s.put l) kb' kc',HC',CV Ji (.cells ⟨cs⟩ 3 (0,0))]/\e= .returned (.tuple #[])/\OS HC' kb' (s.put l).code.length kc' 24 3 (CZ (s.put l).code):=
  Fa p s kb kc HC _ _ ac an l Ge (Oi▸Sl.CV) j0 DO
theorem UW(p:IZ)(s:Mk)(at_ loops:Nat)(kb:Option Addr)(kn kc:Nat)(HC:CA)(Ji ac an:Nat)(cs:List Value)(l:List (Int×Int))(k:Nat)(h1:s.at_=at_)(h2:s.loops=loops)(h3:s.code.length=kn)(h4:kn+l.length=k)(Oi:cs=Ju l)(j0:an=2*l.length)(Ge:OS HC kb kn kc 24 3 (CZ s.code))(DO:k≤1000000):
    SL.T Tryz.prog 58 [pM p,.slice (some ⟨Ji,0,none⟩) an ac] [mC p at_ loops kb kn kc,HC,CV Ji (.cells ⟨cs⟩ 3 (0,0))] fun e o=>∃HC' kb' kc',o= [mC p at_ loops kb' k kc',HC',CV Ji (.cells ⟨cs⟩ 3 (0,0))]/\e= .returned (.tuple #[])/\OS HC' kb' k kc' 24 3 (CZ (s.put l).code):=by
  subst h1 h2 h3 h4;refine(DT p s kb kc HC Ji ac an cs l Oi j0 Ge Ab).mono ?_;rintro e o ⟨HC',kb',kc',rfl,rfl,os⟩;have hl:=DV s l;refine⟨HC',kb',kc',by rw [<-hl];rfl,rfl,by rw [<-hl];exact os⟩
end Go.Proofs.YtcnmnmjmpocepaaGreatDoor
end
section
namespace Go.Proofs.YtcnmnmjmpocepaaGreatDoor
open Go.SL
open Kd
theorem YI:∀ {l:List Bool} {k:Nat},l[k]?=some true->(∀j,j<k->l[j]?=some false)->l.findIdx? id=some k
  | [],k,h,_=>by simp at h
  |a::l,0,h,_=>by simp at h;subst h;simp [List.findIdx?_cons]
  | a::l,k+1,h,hb=>by
    have h0:=hb 0 Ab;simp at h0;subst h0
    have:=YI (l:=l) (k:=k) (by simpa using h) (fun j hj=>by simpa using hb (j+1) Ab);simp [List.findIdx?_cons,this]
theorem gx{l:List Bool}(h:∀j,j<l.length->l[j]?=some false):l.findIdx? id=none:=by
  rw [List.findIdx?_eq_none_iff];intro x hx;obtain⟨i,hi⟩:=List.mem_iff_getElem?.1 hx;have:=h i (List.getElem?_eq_some_iff.1 hi).1;rw [hi] at this;cases this;rfl
attribute [local irreducible] SL.T Dw DG DE DI Et D0
section
variable (p:IZ) (J:CA) (s:Mk) (DO:s.code.length≤900000)
include DO
theorem IQ(n:Nat)(hn:n≤255):MT p J 98 [i64 (n:Int)] s (Ea n s):=by
  intro HC kb kc HL Ge IA;have ZJ:(n:Int)%2=((n%2:Nat):Int):=by omega
  rcases(show n%5=0∨n%5=1∨n%5=2∨n%5=3∨n%5=4 by omega) with h|h|h|h|h
  all_goals have h5:(n:Int)%5=((n%5:Nat):Int):=by omega
  all_goals rw [h] at h5
  · have e:Ea n s=s.put [(2,0),(10,((n%2:Nat):Int)),(3,2)]:=by simp only [Ea,h]
    rw [e];refine CM Tryz.func98 rfl (Nat.le_of_ble_eq_true rfl) fun F=> ?_
    repeat' (first|refine CW rfl rfl rfl (D1 (b:=5) rfl rfl rfl Ah) ?_|refine CW rfl rfl rfl (D1 (b:=2) rfl rfl rfl Ah) ?_|apply Cv|refine Ct 0 Cr Ag ?_|refine CO 2 Cr Al Ab ?_|(refine gk 4 rfl ?_;(refine CK rfl rfl rfl rfl rfl rfl rfl rfl (DT p s kb kc HC _ _ _ [i64 2,i64 0,i64 10,i64 ((n%2:Nat):Int),i64 3,i64 2] [(2,0),(10,((n%2:Nat):Int)),(3,2)] rfl rfl Ge AJ) ?_;rintro _ _ ⟨HC1,FH,FG,rfl,rfl,E2⟩;refine⟨_,_,rfl,rfl,?_⟩))|refine CP (fun b=> ?_)|refine Cu ?_|apply Cw|refine Cy ?_|refine CH ?_|refine CC ?_|apply CB|refine Ja ?_)
    exact CJ [mB p (s.put [(2,0),(10,((n%2:Nat):Int)),(3,2)]) FH FG,HC1,HL,J] Dt ⟨HC1,FH,FG,HL,rfl,rfl,E2,IA⟩
  · have e:Ea n s=s.put [(2,0),(10,((n%2:Nat):Int)),(3,2)]:=by simp only [Ea,h]
    rw [e];refine CM Tryz.func98 rfl (Nat.le_of_ble_eq_true rfl) fun F=> ?_
    repeat' (first|refine CW rfl rfl rfl (D1 (b:=5) rfl rfl rfl Ah) ?_|refine CW rfl rfl rfl (D1 (b:=2) rfl rfl rfl Ah) ?_|apply Cv|refine Ct 0 Cr Ag ?_|refine CO 2 Cr Al Ab ?_|refine CY 2 Cr Al Ab ?_|(refine gk 4 rfl ?_;(refine CK rfl rfl rfl rfl rfl rfl rfl rfl (DT p s kb kc HC _ _ _ [i64 2,i64 0,i64 10,i64 ((n%2:Nat):Int),i64 3,i64 2] [(2,0),(10,((n%2:Nat):Int)),(3,2)] rfl rfl Ge AJ) ?_;rintro _ _ ⟨HC1,FH,FG,rfl,rfl,E2⟩;refine⟨_,_,rfl,rfl,?_⟩))|refine CP (fun b=> ?_)|refine Cu ?_|apply Cw|refine Cy ?_|refine CH ?_|refine CF ?_|refine CC ?_|refine Ja ?_)
    exact CJ [mB p (s.put [(2,0),(10,((n%2:Nat):Int)),(3,2)]) FH FG,HC1,HL,J] Dt ⟨HC1,FH,FG,HL,rfl,rfl,E2,IA⟩
  · have e:Ea n s=s.put [(2,0),(2,3),(11,((n%2:Nat):Int))]:=by simp only [Ea,h]
    rw [e];refine CM Tryz.func98 rfl (Nat.le_of_ble_eq_true rfl) fun F=> ?_
    repeat' (first|refine CW rfl rfl rfl (D1 (b:=5) rfl rfl rfl Ah) ?_|refine CW rfl rfl rfl (D1 (b:=2) rfl rfl rfl Ah) ?_|apply Cv|refine Ct 0 Cr Ag ?_|refine CO 2 Cr Al Ab ?_|refine CY 2 Cr Al Ab ?_|(refine gk 4 rfl ?_;(refine CK rfl rfl rfl rfl rfl rfl rfl rfl (DT p s kb kc HC _ _ _ [i64 2,i64 0,i64 2,i64 3,i64 11,i64 ((n%2:Nat):Int)] [(2,0),(2,3),(11,((n%2:Nat):Int))] rfl rfl Ge AJ) ?_;rintro _ _ ⟨HC1,FH,FG,rfl,rfl,E2⟩;refine⟨_,_,rfl,rfl,?_⟩))|refine CP (fun b=> ?_)|refine Cu ?_|apply Cw|refine Cy ?_|refine CH ?_|refine CF ?_|refine CC ?_|apply CB|refine Ja ?_)
    exact CJ [mB p (s.put [(2,0),(2,3),(11,((n%2:Nat):Int))]) FH FG,HC1,HL,J] Dt ⟨HC1,FH,FG,HL,rfl,rfl,E2,IA⟩
  · have e:Ea n s=s.put [(2,0),(2,3),(11,((n%2:Nat):Int))]:=by simp only [Ea,h]
    rw [e];refine CM Tryz.func98 rfl (Nat.le_of_ble_eq_true rfl) fun F=> ?_
    repeat' (first|refine CW rfl rfl rfl (D1 (b:=5) rfl rfl rfl Ah) ?_|refine CW rfl rfl rfl (D1 (b:=2) rfl rfl rfl Ah) ?_|apply Cv|refine Ct 0 Cr Ag ?_|refine CO 2 Cr Al Ab ?_|refine CY 2 Cr Al Ab ?_|(refine gk 4 rfl ?_;(refine CK rfl rfl rfl rfl rfl rfl rfl rfl (DT p s kb kc HC _ _ _ [i64 2,i64 0,i64 2,i64 3,i64 11,i64 ((n%2:Nat):Int)] [(2,0),(2,3),(11,((n%2:Nat):Int))] rfl rfl Ge AJ) ?_;rintro _ _ ⟨HC1,FH,FG,rfl,rfl,E2⟩;refine⟨_,_,rfl,rfl,?_⟩))|refine CP (fun b=> ?_)|refine Cu ?_|apply Cw|refine Cy ?_|refine CH ?_|refine CF ?_|refine CC ?_|refine Ja ?_)
    exact CJ [mB p (s.put [(2,0),(2,3),(11,((n%2:Nat):Int))]) FH FG,HC1,HL,J] Dt ⟨HC1,FH,FG,HL,rfl,rfl,E2,IA⟩
  · have e:Ea n s=⟨s.at_,s.code++Is [(2,1),(2,0)]++ [⟨11,1,1⟩],s.locked,s.loops⟩:=by simp only [Ea,h]
    rw [e];refine CM Tryz.func98 rfl (Nat.le_of_ble_eq_true rfl) fun F=> ?_
    repeat' (first|refine CW rfl rfl rfl (D1 (b:=5) rfl rfl rfl Ah) ?_|apply Cv|refine Ct 0 Cr Ag ?_|refine CY 2 Cr Al Ab ?_|refine Ct 3 Cr Af ?_|(refine gk 4 rfl ?_;(refine CK rfl rfl rfl rfl rfl rfl rfl rfl (DT p s kb kc HC _ _ _ [i64 2,i64 1,i64 2,i64 0] [(2,1),(2,0)] rfl rfl Ge AJ) ?_;rintro _ _ ⟨HC1,FH,FG,rfl,rfl,E2⟩;refine⟨_,_,rfl,rfl,?_⟩))|refine Ct 5 Cr AX ?_|refine CP (fun b=> ?_)|refine Cu ?_|apply Cw|refine Cy ?_|refine CF ?_|refine CC ?_)
    repeat' (first|refine Ct 3 Cr Bc ?_|(refine gk 4 rfl ?_;refine Ef rfl rfl rfl rfl rfl rfl rfl rfl rfl E2 Ah rfl Ah rfl (by rw [DV];simp only [List.length_cons,List.length_nil];omega) (by rw [DV];simp only [List.length_cons,List.length_nil];omega) (fun h2 b2 c2 G3=> ?_))|refine Ct 5 Cr Ak ?_|refine CN ?_|apply Cw|refine Ja ?_)
    have e3:(s.put [(2,1),(2,0)]).code.length+1=(s.code++Is [(2,1),(2,0)]++([⟨11,1,1⟩]:List Ins)).length:=by simp [Mk.put,Nat.add_assoc]
    rw [e3] at G3 ⊢
    refine CJ [mC p (s.put [(2,1),(2,0)]).at_ (s.put [(2,1),(2,0)]).loops b2 (s.code++Is [(2,1),(2,0)]++([⟨11,1,1⟩]:List Ins)).length c2,h2,HL,J] Dt ⟨h2,b2,c2,HL,rfl,rfl,?_,IA⟩;rw [F9];exact G3
theorem V8(op:Int)(ho:p.own≤2):MT p J 103 [i64 op] s (G6 p.own op s):=by
  intro HC kb kc HL Ge IA;by_cases h2:p.own=2
  · have e:G6 p.own op s=s.put [(0,5),(3,3)]:=by simp only [G6];rw [if_pos h2]
    rw [e];refine CM Tryz.func103 rfl (Nat.le_of_ble_eq_true rfl) fun F=> ?_
    repeat' (first|apply Cv|refine Ct 0 Cr Ap ?_|refine CO 2 Cr Al Ab ?_|refine Ct 3 Cr Af ?_|(refine gk 4 rfl ?_;(refine CK rfl rfl rfl rfl rfl rfl rfl rfl (DT p s kb kc HC _ _ _ [i64 0,i64 5,i64 3,i64 3] [(0,5),(3,3)] rfl rfl Ge AJ) ?_;rintro _ _ ⟨HC1,FH,FG,rfl,rfl,E2⟩;refine⟨_,_,rfl,rfl,?_⟩))|refine Ct 5 Cr Ak ?_|refine CP (fun b=> ?_)|refine Cu ?_|apply Cw|refine Cy ?_|refine CH ?_|apply Cz|refine CQ ?_)
    exact CJ [mB p (s.put [(0,5),(3,3)]) FH FG,HC1,HL,J] Dt ⟨HC1,FH,FG,HL,rfl,rfl,E2,IA⟩
  · have e1:((p.own:Nat):Int)+1=((p.own+1:Nat):Int):=by omega
    by_cases h1:p.own+1=2
    · have e:G6 p.own op s=(((s.put [(2,0),(2,1)]).put [(2,2)]).put [(2,2)]).put [(op,((p.own+1:Nat):Int)),(3,2)]:=by simp only [G6];rw [if_neg h2,if_pos h1,e1]
      rw [e];refine CM Tryz.func103 rfl (Nat.le_of_ble_eq_true rfl) fun F=> ?_
      repeat' (first|refine CW rfl rfl rfl ((H4 rfl rfl rfl Ab Ab).to (congrArg (Value.int .i64) e1)) ?_|apply Cv|refine Ct 0 Cr Ag ?_|refine CO 2 Cr Al Ab ?_|refine CY 2 Cr Al Ab ?_|refine Ct 3 Cr Af ?_|(refine gk 4 rfl ?_;(refine CK rfl rfl rfl rfl rfl rfl rfl rfl (DT p s kb kc HC _ _ _ [i64 2,i64 0,i64 2,i64 1] [(2,0),(2,1)] rfl rfl Ge AJ) ?_;rintro _ _ ⟨HC1,FH,FG,rfl,rfl,E2⟩;refine⟨_,_,rfl,rfl,?_⟩))|refine Ct 5 Cr Ak ?_|refine CP (fun b=> ?_)|refine Cu ?_|apply Cw|refine Cy ?_|refine CH ?_|refine CF ?_|apply CB)
      repeat' (first|refine Ct 0 Cr Ap ?_|(refine gk 4 rfl ?_;(refine CK rfl rfl rfl rfl rfl rfl rfl rfl (DT p (s.put [(2,0),(2,1)]) FH FG HC1 _ _ _ [i64 2,i64 2] [(2,2)] rfl rfl E2 AJ) ?_;rintro _ _ ⟨HC2,Kl,Kk,rfl,rfl,G3⟩;refine⟨_,_,rfl,rfl,?_⟩))|refine CP (fun b=> ?_)|refine Cu ?_|apply Cw)
      repeat' (first|refine Ct 0 Cr Ap ?_|(refine gk 4 rfl ?_;(refine CK rfl rfl rfl rfl rfl rfl rfl rfl (DT p ((s.put [(2,0),(2,1)]).put [(2,2)]) Kl Kk HC2 _ _ _ [i64 2,i64 2] [(2,2)] rfl rfl G3 AJ) ?_;rintro _ _ ⟨HC3,kb3,kc3,rfl,rfl,O3⟩;refine⟨_,_,rfl,rfl,?_⟩))|refine CP (fun b=> ?_)|refine Cu ?_|apply Cw)
      repeat' (first|(refine gk 4 rfl ?_;(refine CK rfl rfl rfl rfl rfl rfl rfl rfl (DT p (((s.put [(2,0),(2,1)]).put [(2,2)]).put [(2,2)]) kb3 kc3 HC3 _ _ _ [i64 op,i64 ((p.own+1:Nat):Int),i64 3,i64 2] [(op,((p.own+1:Nat):Int)),(3,2)] rfl rfl O3 AJ) ?_;rintro _ _ ⟨HC4,kb4,kc4,rfl,rfl,os4⟩;refine⟨_,_,rfl,rfl,?_⟩))|apply Cw)
      exact CJ [mB p ((((s.put [(2,0),(2,1)]).put [(2,2)]).put [(2,2)]).put [(op,((p.own+1:Nat):Int)),(3,2)]) kb4 kc4,HC4,HL,J] Dt ⟨HC4,kb4,kc4,HL,rfl,rfl,os4,IA⟩
    · have e:G6 p.own op s=(s.put [(2,0),(2,1)]).put [(op,((p.own+1:Nat):Int)),(3,2)]:=by simp only [G6];rw [if_neg h2,if_neg h1,e1]
      rw [e];refine CM Tryz.func103 rfl (Nat.le_of_ble_eq_true rfl) fun F=> ?_
      repeat' (first|refine CW rfl rfl rfl ((H4 rfl rfl rfl Ab Ab).to (congrArg (Value.int .i64) e1)) ?_|apply Cv|refine Ct 0 Cr Ag ?_|refine CY 2 Cr Al Ab ?_|refine Ct 3 Cr Af ?_|(refine gk 4 rfl ?_;(refine CK rfl rfl rfl rfl rfl rfl rfl rfl (DT p s kb kc HC _ _ _ [i64 2,i64 0,i64 2,i64 1] [(2,0),(2,1)] rfl rfl Ge AJ) ?_;rintro _ _ ⟨HC1,FH,FG,rfl,rfl,E2⟩;refine⟨_,_,rfl,rfl,?_⟩))|refine Ct 5 Cr Ak ?_|refine CP (fun b=> ?_)|refine Cu ?_|apply Cw|refine Cy ?_|refine CF ?_|apply CB)
      repeat' (first|(refine gk 4 rfl ?_;(refine CK rfl rfl rfl rfl rfl rfl rfl rfl (DT p (s.put [(2,0),(2,1)]) FH FG HC1 _ _ _ [i64 op,i64 ((p.own+1:Nat):Int),i64 3,i64 2] [(op,((p.own+1:Nat):Int)),(3,2)] rfl rfl E2 AJ) ?_;rintro _ _ ⟨HC2,Kl,Kk,rfl,rfl,G3⟩;refine⟨_,_,rfl,rfl,?_⟩))|apply Cw)
      exact CJ [mB p ((s.put [(2,0),(2,1)]).put [(op,((p.own+1:Nat):Int)),(3,2)]) Kl Kk,HC2,HL,J] Dt ⟨HC2,Kl,Kk,HL,rfl,rfl,G3,IA⟩
theorem OD(n:Nat)(hn:n≤255)(Ig:s.locked.length=5):MT p J 99 [i64 (n:Int)] s (Gz n s):=by
  intro HC kb kc HL Ge IA;refine CM Tryz.func99 rfl (Nat.le_of_ble_eq_true rfl) fun F=> ?_
  repeat' (first|apply Cv|refine Ct 0 Cr Au ?_|refine Cu ?_|apply Cw|refine Cy ?_|refine CC ?_)
  refine C4 (fun k:Nat=> [(0,pM p),(1,i64 (n:Int)),(4,i64 (k:Int))]) (fun _=> [mB p s kb kc,HC,HL,J]) (fun k=>k≤5/\∀j,j<k->s.locked[j]?=some false) (fun k=>5 - k) 0 (by repeat first|exact Sub.nil _|refine Sub.cons rfl ?_) ⟨Nat.zero_le _,fun j hj=>absurd hj (Nat.not_lt_zero _)⟩ ?_;rintro k ⟨hk,hbef⟩;haveI slL:=IA.sl;by_cases hk5:k<5
  · obtain⟨b,hb⟩:∃z,s.locked[k]?=some z:=⟨_,List.getElem?_eq_getElem Ab⟩;have hct:(RA s.locked)[((k:Nat):Int).toNat*1]?=some (.bool b):=by simp [RA,hb]
    have hkk:((k:Nat):Int).toNat*1<(RA s.locked).length:=by simp [RA];omega
    cases b with
    | false=>
      repeat' (first|apply Cv|refine Ct 0 Cr A3 ?_|refine Ct 1 Cr Ao ?_|refine CO 2 Cr Aj Ab ?_|refine Ct 3 Cr AG ?_|refine Ct 4 Cr Ae ?_|refine Ct 5 Cr Ak ?_|refine Cu ?_|apply Cw|refine Cy ?_|refine CH ?_|refine CC ?_|refine C1 ?_|apply CB)
      refine⟨rfl,k+1,CX (by repeat first|exact Sub.nil _|refine Sub.cons rfl ?_),⟨by omega,fun j hj=> ?_⟩,by omega⟩;by_cases e:j=k
      · rw [e];exact hb
      · exact hbef j Ab
    | true=>
      have e:Gz n s=s.put (G0 n k):=by
        unfold Gz;rw [YI hb hbef]
      rw [e];rcases(show n%5=0∨n%5=1∨n%5=2∨n%5=3∨n%5=4 by omega) with h|h|h|h|h
      all_goals have h5:(n:Int)%5=((n%5:Nat):Int):=by omega
      all_goals rw [h] at h5
      · have e2:G0 n k= [(2,(k:Int)),(14,0),(3,3)]:=by simp only [G0,h]
        rw [e2]
        repeat' (first|refine CW rfl rfl rfl (D1 (b:=5) rfl rfl rfl Ah) ?_|apply Cv|refine Ct 0 Cr AS ?_|refine CO 2 Cr AP Ab ?_|refine Ct 3 Cr AG ?_|refine Ct 4 Cr Ae ?_|(refine gk 4 rfl ?_;(refine CK rfl rfl rfl rfl rfl rfl rfl rfl (DT p s kb kc HC _ _ _ [i64 2,i64 (k:Int),i64 14,i64 0,i64 3,i64 3] [(2,(k:Int)),(14,0),(3,3)] rfl rfl Ge AJ) ?_;rintro _ _ ⟨HC1,FH,FG,rfl,rfl,E2⟩;refine⟨_,_,rfl,rfl,?_⟩))|refine Ct 5 Cr Ak ?_|refine CP (fun b=> ?_)|refine Cu ?_|apply Cw|refine Cy ?_|refine CH ?_|refine CF ?_|refine CC ?_|apply Cz|apply CB|refine CQ ?_|refine C3 ?_)
        exact CJ [mB p (s.put [(2,(k:Int)),(14,0),(3,3)]) FH FG,HC1,HL,J] Dt ⟨HC1,FH,FG,HL,rfl,rfl,E2,IA⟩
      · have e2:G0 n k= [(2,(k:Int)),(15,0)]:=by simp only [G0,h]
        rw [e2]
        repeat' (first|refine CW rfl rfl rfl (D1 (b:=5) rfl rfl rfl Ah) ?_|apply Cv|refine Ct 0 Cr AS ?_|refine CO 2 Cr AP Ab ?_|refine CY 2 Cr Al Ab ?_|refine Ct 3 Cr AG ?_|refine Ct 4 Cr Ae ?_|(refine gk 4 rfl ?_;(refine CK rfl rfl rfl rfl rfl rfl rfl rfl (DT p s kb kc HC _ _ _ [i64 2,i64 (k:Int),i64 15,i64 0] [(2,(k:Int)),(15,0)] rfl rfl Ge AJ) ?_;rintro _ _ ⟨HC1,FH,FG,rfl,rfl,E2⟩;refine⟨_,_,rfl,rfl,?_⟩))|refine Ct 5 Cr Ak ?_|refine CP (fun b=> ?_)|refine Cu ?_|apply Cw|refine Cy ?_|refine CH ?_|refine CF ?_|refine CC ?_|apply Cz|apply CB|refine CQ ?_|refine C3 ?_)
        exact CJ [mB p (s.put [(2,(k:Int)),(15,0)]) FH FG,HC1,HL,J] Dt ⟨HC1,FH,FG,HL,rfl,rfl,E2,IA⟩
      · have e2:G0 n k= [(2,(k:Int)),(15,0)]:=by simp only [G0,h]
        rw [e2]
        repeat' (first|refine CW rfl rfl rfl (D1 (b:=5) rfl rfl rfl Ah) ?_|apply Cv|refine Ct 0 Cr AS ?_|refine CO 2 Cr AP Ab ?_|refine CY 2 Cr Al Ab ?_|refine Ct 3 Cr AG ?_|refine Ct 4 Cr Ae ?_|(refine gk 4 rfl ?_;(refine CK rfl rfl rfl rfl rfl rfl rfl rfl (DT p s kb kc HC _ _ _ [i64 2,i64 (k:Int),i64 15,i64 0] [(2,(k:Int)),(15,0)] rfl rfl Ge AJ) ?_;rintro _ _ ⟨HC1,FH,FG,rfl,rfl,E2⟩;refine⟨_,_,rfl,rfl,?_⟩))|refine Ct 5 Cr Ak ?_|refine CP (fun b=> ?_)|refine Cu ?_|apply Cw|refine Cy ?_|refine CH ?_|refine CF ?_|refine CC ?_|apply Cz|apply CB|refine CQ ?_|refine C3 ?_)
        exact CJ [mB p (s.put [(2,(k:Int)),(15,0)]) FH FG,HC1,HL,J] Dt ⟨HC1,FH,FG,HL,rfl,rfl,E2,IA⟩
      · have e2:G0 n k= [(2,(k:Int)),(16,0)]:=by simp only [G0,h]
        rw [e2]
        repeat' (first|refine CW rfl rfl rfl (D1 (b:=5) rfl rfl rfl Ah) ?_|apply Cv|refine Ct 0 Cr AS ?_|refine CO 2 Cr AP Ab ?_|refine CY 2 Cr Al Ab ?_|refine Ct 3 Cr AG ?_|refine Ct 4 Cr Ae ?_|(refine gk 4 rfl ?_;(refine CK rfl rfl rfl rfl rfl rfl rfl rfl (DT p s kb kc HC _ _ _ [i64 2,i64 (k:Int),i64 16,i64 0] [(2,(k:Int)),(16,0)] rfl rfl Ge AJ) ?_;rintro _ _ ⟨HC1,FH,FG,rfl,rfl,E2⟩;refine⟨_,_,rfl,rfl,?_⟩))|refine Ct 5 Cr Ak ?_|refine CP (fun b=> ?_)|refine Cu ?_|apply Cw|refine Cy ?_|refine CH ?_|refine CF ?_|refine CC ?_|apply Cz|apply CB|refine CQ ?_|refine C3 ?_)
        exact CJ [mB p (s.put [(2,(k:Int)),(16,0)]) FH FG,HC1,HL,J] Dt ⟨HC1,FH,FG,HL,rfl,rfl,E2,IA⟩
      · have e2:G0 n k= [(2,(k:Int)),(16,0)]:=by simp only [G0,h]
        rw [e2]
        repeat' (first|refine CW rfl rfl rfl (D1 (b:=5) rfl rfl rfl Ah) ?_|apply Cv|refine Ct 0 Cr AS ?_|refine CO 2 Cr AP Ab ?_|refine CY 2 Cr Al Ab ?_|refine Ct 3 Cr AG ?_|refine Ct 4 Cr Ae ?_|(refine gk 4 rfl ?_;(refine CK rfl rfl rfl rfl rfl rfl rfl rfl (DT p s kb kc HC _ _ _ [i64 2,i64 (k:Int),i64 16,i64 0] [(2,(k:Int)),(16,0)] rfl rfl Ge AJ) ?_;rintro _ _ ⟨HC1,FH,FG,rfl,rfl,E2⟩;refine⟨_,_,rfl,rfl,?_⟩))|refine Ct 5 Cr Ak ?_|refine CP (fun b=> ?_)|refine Cu ?_|apply Cw|refine Cy ?_|refine CH ?_|refine CF ?_|refine CC ?_|apply Cz|apply CB|refine CQ ?_|refine C3 ?_)
        exact CJ [mB p (s.put [(2,(k:Int)),(16,0)]) FH FG,HC1,HL,J] Dt ⟨HC1,FH,FG,HL,rfl,rfl,E2,IA⟩
  · have e:Gz n s=s:=by
      unfold Gz;rw [gx (fun j hj=>hbef j Ab)]
    rw [e]
    repeat' (first|apply Cv|refine Ct 0 Cr Ap ?_|refine CY 2 Cr Aj Ab ?_|refine Ct 3 Cr Af ?_|refine Ct 4 Cr Ae ?_|refine Ct 5 Cr Ak ?_|refine Cu ?_|apply Cw|refine Cy ?_|refine CF ?_|refine C1 ?_|refine Gf ?_|refine Gh ?_)
    exact HR [mB p s kb kc,HC,HL,J] Dt ⟨HC,kb,kc,HL,rfl,rfl,Ge,IA⟩
end
end Go.Proofs.YtcnmnmjmpocepaaGreatDoor
end
section
namespace Go.Proofs.YtcnmnmjmpocepaaGreatDoor
open Go.SL
open Kd
structure PA(p:IZ)(J:CA)(L A X:Nat)(d:Int)(rec:Mk->Mk):Prop where
  calls:∀s:Mk,s.code.length≤153->s.locked.length=5->s.at_≤X->s.loops≤3->MT p J 59 [i64 d] s (rec s)
  fits:Fits L A rec
theorem cr{l:List Bool}{k:Nat}(b:Bool)(h:k<l.length):(RA l).take (k*1)++ [.bool b]++(RA l).drop (k*1+1)=RA (l.set k b):=by
  rw [RA,RA,List.map_set,Nat.mul_one,List.set_eq_take_append_cons_drop,if_pos (by simpa using h)];simp
theorem Sd{l:List Bool}{k:Nat}(b:Bool)(h:k<l.length):(RA l).take (((k:Nat):Int).toNat*1)++ [.bool b]++(RA l).drop (((k:Nat):Int).toNat*1+1)=RA (l.set k b):=by
  rw [Int.toNat_natCast];exact cr b h
theorem WT{l:List Ins}{i:Nat}(a:Int)(h:i<l.length):(CZ l).take (i*3+1)++ [i64 a]++(CZ l).drop (i*3+1+1)=CZ (M1 l i a):=by
  obtain⟨y,hy⟩:∃y,l[i]?=some y:=⟨_,List.getElem?_eq_getElem h⟩;have e:M1 l i a=l.set i ⟨y.op,a,y.b⟩:=by unfold M1;rw [hy]
  rw [e];clear e;induction l generalizing i with
  |nil=>simp at h
  | cons x r ih=>
    cases i with
    |zero=>simp at hy;subst hy;simp [CZ]
    | succ i=>
      have:=ih (i:=i) (by simpa using h) (by simpa using hy);simp only [Nat.succ_mul,CZ,List.set_cons_succ] at this ⊢
      simpa using this
theorem OF{l:List Ins}{i:Nat}(a:Int)(h:i<l.length):(CZ l).take (((i:Nat):Int).toNat*3+1)++ [i64 a]++(CZ l).drop (((i:Nat):Int).toNat*3+1+1)=CZ (M1 l i a):=by
  rw [Int.toNat_natCast];exact WT a h
attribute [local irreducible] SL.T Dw DG DE DI Et D0
section
variable (p:IZ) (J:CA) (L A X:Nat) (d:Int) (rec:Mk->Mk) (jT:1≤d) (T0:d≤100) (hB:PA p J L A X (d - 1) rec) (hL:L≤1000) (hA:A≤10000)
include jT T0 hB hL hA
theorem My(k:Nat)(hk:k<5)(s:Mk)(hs:s.code.length<150)(Ig:s.locked.length=5)(FD:s.at_≤X)(MC:s.loops≤3):MT p J 100 [i64 (k:Int),i64 d] s (Gv rec k s):=by
  intro HC kb kc HL Ge IA;haveI slL:=IA.sl;obtain⟨z,hz⟩:∃z,s.locked[k]?=some z:=⟨_,List.getElem?_eq_getElem Ab⟩;have hct:(RA s.locked)[((k:Nat):Int).toNat*1]?=some (.bool z):=by simp [RA,hz]
  have hkk:((k:Nat):Int).toNat*1<(RA s.locked).length:=by simp [RA];omega
  cases z with
  | true=>
    have e:Gv rec k s=s.put [(2,2),(19,0)]:=by simp [Gv,List.getD,hz]
    rw [e];refine CM Tryz.func100 rfl (Nat.le_of_ble_eq_true rfl) fun F=> ?_
    repeat' (first|apply Cv|refine Ct 0 Cr Ap ?_|refine Ct 3 Cr AG ?_|(refine gk 4 rfl ?_;(refine CK rfl rfl rfl rfl rfl rfl rfl rfl (DT p s kb kc HC _ _ _ [i64 2,i64 2,i64 19,i64 0] [(2,2),(19,0)] rfl rfl Ge AT) ?_;rintro _ _ ⟨HC1,FH,FG,rfl,rfl,E2⟩;refine⟨_,_,rfl,rfl,?_⟩))|refine Ct 5 Cr Ak ?_|refine CP (fun b=> ?_)|refine Cu ?_|apply Cw|refine Cy ?_|refine CH ?_|apply Cz|refine CQ ?_)
    exact CJ [mB p (s.put [(2,2),(19,0)]) FH FG,HC1,HL,J] Dt ⟨HC1,FH,FG,HL,rfl,rfl,E2,IA⟩
  | false=>
    have e:Gv rec k s=((rec ((s.put [(2,k),(12,0)]).lock k true)).lock k false).put [(2,k),(13,0)]:=by simp [Gv,List.getD,hz]
    rw [e];have hc:=hB.calls ((s.put [(2,k),(12,0)]).lock k true) BJ (by simp only [Mk.lock,Mk.put,List.length_set];exact Ig) FD MC;have hf:=hB.fits ((s.put [(2,k),(12,0)]).lock k true) BJ
    generalize hr:rec ((s.put [(2,(k:Int)),(12,0)]).lock k true)=r at*
    have iD:r.locked.length=5:=by rw [hf.lk];simp only [Mk.lock,Mk.put,List.length_set];exact Ig
    refine CM Tryz.func100 rfl (Nat.le_of_ble_eq_true rfl) fun F=> ?_
    repeat' (first|refine Gl rfl rfl rfl rfl rfl IA rfl rfl rfl (Nat.succ_pos _) As (Sd true Ab) (fun ax bI=> ?_)|apply Cv|refine Ct 0 Cr Ap ?_|refine Ct 1 Cr AF ?_|refine Ct 3 Cr AG ?_|(refine gk 4 rfl ?_;(refine CK rfl rfl rfl rfl rfl rfl rfl rfl (DT p s kb kc HC _ _ _ [i64 2,i64 (k:Int),i64 12,i64 0] [(2,(k:Int)),(12,0)] rfl rfl Ge AT) ?_;rintro _ _ ⟨HC1,FH,FG,rfl,rfl,E2⟩;refine⟨_,_,rfl,rfl,?_⟩))|refine Ct 5 Cr Ak ?_|refine CP (fun b=> ?_)|refine Cu ?_|apply Cw|refine Cy ?_|refine CF ?_|apply CB)
    have L8:SL.T Tryz.prog 59 [pM p,i64 (d - 1)] [mB p (s.put [(2,(k:Int)),(12,0)]) FH FG,HC1,ax,J] (MQ p J r):=hc HC1 FH FG ax E2 bI;have hfl:=hf.len
    repeat' (first|apply Cv|refine Ct 0 Cr Ap ?_|refine Ct 3 Cr Af ?_|(refine gk 4 rfl ?_;(refine CK rfl rfl rfl rfl rfl rfl rfl rfl (L8) ?_;rintro _ _ ⟨HC2,Kl,Kk,HL2,rfl,rfl,G3,osL2⟩;refine⟨_,_,rfl,rfl,?_⟩))|refine Ct 5 Cr Ak ?_|refine Cu ?_|apply Cw)
    haveI slL2:=osL2.sl;have hkk2:((k:Nat):Int).toNat*1<(RA r.locked).length:=by simp [RA];omega
    repeat' (first|refine Gl rfl rfl rfl rfl rfl osL2 rfl rfl rfl (Nat.succ_pos _) As (Sd false Ab) (fun nr nR=> ?_)|refine Ct 0 Cr Ap ?_|refine Ct 3 Cr BV ?_|(refine gk 4 rfl ?_;(refine CK rfl rfl rfl rfl rfl rfl rfl rfl (DT p r Kl Kk HC2 _ _ _ [i64 2,i64 (k:Int),i64 13,i64 0] [(2,(k:Int)),(13,0)] rfl rfl G3 AT) ?_;rintro _ _ ⟨HC3,kb3,kc3,rfl,rfl,O3⟩;refine⟨_,_,rfl,rfl,?_⟩))|refine CP (fun b=> ?_)|refine Cu ?_|apply Cw)
    exact CJ [mB p (r.put [(2,(k:Int)),(13,0)]) kb3 kc3,HC3,nr,J] Dt ⟨HC3,kb3,kc3,nr,rfl,rfl,O3,nR⟩
theorem WD(s:Mk)(hs:s.code.length<150)(Ig:s.locked.length=5)(FD:s.at_≤X)(MC:s.loops≤3):MT p J 101 [i64 d] s (LZ rec s):=by
  intro HC kb kc HL Ge IA;have hc:=hB.calls (s.put [(2,2),(7,0)]) AJ Ig FD MC;have hf:=hB.fits (s.put [(2,2),(7,0)]) AJ;have e:LZ rec s=((rec (s.put [(2,2),(7,0)])).to (s.code.length+1) (rec (s.put [(2,2),(7,0)])).code.length).put [(2,2),(3,2)]:=rfl;rw [e]
  generalize hr:rec (s.put [(2,2),(7,0)])=r at*
  have hfl:=hf.len;have hfe:=hf.le;rw [DV] at hfe
  simp only [List.length_cons,List.length_nil] at hfe
  have e4:(((s.put [(2,2),(7,0)]).code.length:Nat):Int) - 1=((s.code.length+1:Nat):Int):=by rw [DV];simp only [List.length_cons,List.length_nil];omega
  refine CM Tryz.func101 rfl (Nat.le_of_ble_eq_true rfl) fun F=> ?_
  repeat' (first|apply Cv|refine Ct 0 Cr Ag ?_|refine Ct 1 Cr AF ?_|refine Ct 3 Cr Af ?_|refine Ct 4 Cr Ae ?_|(refine gk 4 rfl ?_;(refine CK rfl rfl rfl rfl rfl rfl rfl rfl (DT p s kb kc HC _ _ _ [i64 2,i64 2,i64 7,i64 0] [(2,2),(7,0)] rfl rfl Ge AT) ?_;rintro _ _ ⟨HC1,FH,FG,rfl,rfl,E2⟩;refine⟨_,_,rfl,rfl,?_⟩))|refine Ct 5 Cr Ak ?_|refine CP (fun b=> ?_)|refine Cu ?_|apply Cw)
  have L8:=hc HC1 FH FG HL E2 IA
  repeat' (first|apply Cv|(refine gk 4 rfl ?_;(refine CK rfl rfl rfl rfl rfl rfl rfl rfl (L8) ?_;rintro _ _ ⟨HC2,Kl,Kk,HL2,rfl,rfl,G3,osL2⟩;refine⟨_,_,rfl,rfl,?_⟩))|apply Cw)
  rw [e4];haveI slC2:=G3.sl;have hkk:((s.code.length+1:Nat):Int).toNat*3<(CZ r.code).length:=by rw [Dc];simp;omega
  have hkk1:((s.code.length+1:Nat):Int).toNat*3+1<(CZ r.code).length:=by rw [Dc];simp;omega
  refine C0 [.q [0,1,2,3,4,5,6,7,8,9,10,11],.h true 12] [mB p r Kl Kk] Ac Ac Ac Ac ?_
  repeat' (first|refine Ct 0 Cr Ap ?_|refine Ct 3 Cr Ci ?_|refine Ct 4 Cr Ae ?_|(refine gk 4 rfl ?_;(refine CK rfl rfl rfl rfl rfl rfl rfl rfl (UW p (r.to (s.code.length+1) r.code.length) r.at_ r.loops Kl r.code.length Kk ax _ _ _ [i64 2,i64 2,i64 3,i64 2] [(2,2),(3,2)] (r.code.length+2) rfl rfl (by simp only [DV,GA,Mk.lock,Mk.to,Mk.nx,List.length_cons,List.length_nil]) Bw rfl rfl bI Ab) ?_;rintro _ _ ⟨HC3,kb3,kc3,rfl,rfl,O3⟩;refine⟨_,_,rfl,rfl,?_⟩))|refine Ct 5 Cr Ak ?_|refine CP (fun b=> ?_)|refine Cu ?_|refine C5 ?_|refine Dd rfl ?_|refine Ew rfl rfl rfl rfl rfl rfl G3 rfl rfl rfl (Nat.succ_pos _) As (OF (r.code.length:Int) Ab) (fun ax bI=> ?_)|apply Cw)
  have e6:((r.to (s.code.length+1) r.code.length).put [(2,2),(3,2)]).code.length=r.code.length+2:=by rw [DV];simp [Mk.to,GA]
  refine HR [mC p r.at_ r.loops kb3 (r.code.length+2) kc3,HC3,HL2,J] Dt ⟨HC3,kb3,kc3,HL2,?_,rfl,?_,osL2⟩
  · rw [<-e6];rfl
  · rw [e6];exact O3
end
end Go.Proofs.YtcnmnmjmpocepaaGreatDoor
end
section
namespace Go.Proofs.YtcnmnmjmpocepaaGreatDoor
open Go.SL
open Kd
attribute [local irreducible] SL.T Dw DG DE DI Et D0
theorem Xh(p:IZ)(J:CA)(bs:List Nat)(L A X:Nat)(d:Int)(rec:Mk->Mk)(jT:1≤d)(T0:d≤100)(hB:PA p J L A X (d - 1) rec)(hL:L≤1000)(hA:A≤10000)
    [Rj:Sl J p.bb (bs.map Rc)] (Lf:bs.length=p.bn) (Ma:p.bn≤1000000) (hb:∀x∈bs,x≤255)
    (s:Mk) (hs:s.code.length<150) (Ig:s.locked.length=5) (FD:s.at_+1≤X) (hX:X≤900000) (MC:s.loops≤3):MT p J 102 [i64 d] s (Jr bs rec s):=by
  intro HC kb kc HL Ge IA;by_cases h3:s.loops=3
  · have e:Jr bs rec s=s.put [(0,7),(3,2)]:=by unfold Jr;rw [if_pos h3]
    rw [e];refine CM Tryz.func102 rfl (Nat.le_of_ble_eq_true rfl) fun F=> ?_
    repeat' (first|apply Cv|refine Ct 0 Cr Ap ?_|refine CO 2 Cr Al Ab ?_|refine Ct 3 Cr Af ?_|(refine gk 4 rfl ?_;(refine CK rfl rfl rfl rfl rfl rfl rfl rfl (DT p s kb kc HC _ _ _ [i64 0,i64 7,i64 3,i64 2] [(0,7),(3,2)] rfl rfl Ge AT) ?_;rintro _ _ ⟨HC1,FH,FG,rfl,rfl,E2⟩;refine⟨_,_,rfl,rfl,?_⟩))|refine Ct 5 Cr Ak ?_|refine CP (fun b=> ?_)|refine Cu ?_|apply Cw|refine Cy ?_|refine CH ?_|apply Cz|refine CQ ?_)
    exact CJ [mB p (s.put [(0,7),(3,2)]) FH FG,HC1,HL,J] Dt ⟨HC1,FH,FG,HL,rfl,rfl,E2,IA⟩
  · obtain⟨s1,Kp⟩:∃z,z=(({s with loops:=s.loops+1}:Mk).nx).put [(0,(1+((Dj bs s.at_%2:Nat):Int))),(3,(5+(s.loops:Int)))]:=⟨_,rfl⟩;have hs1l:s1.code.length=s.code.length+2:=by rw [Kp,DV];rfl
    have hs1a:s1.at_=s.at_+1:=by rw [Kp];rfl
    have hs1o:s1.loops=s.loops+1:=by rw [Kp];rfl
    have hs1k:s1.locked=s.locked:=by rw [Kp];rfl
    obtain⟨s2,MS⟩:∃z,z=s1.put [(2,(5+(s.loops:Int))),(7,0)]:=⟨_,rfl⟩;have hs2l:s2.code.length=s.code.length+4:=by rw [MS,DV,hs1l];rfl
    have hs2a:s2.at_=s.at_+1:=by rw [MS];exact hs1a
    have hs2o:s2.loops=s.loops+1:=by rw [MS];exact hs1o
    have hs2k:s2.locked=s.locked:=by rw [MS];exact hs1k
    have hc:=hB.calls s2 Ab (by rw [hs2k];exact Ig) Ab Ab;have hf:=hB.fits s2 Ab;obtain⟨r,hr⟩:∃z,z=rec s2:=⟨_,rfl⟩;rw [<-hr] at hc hf
    have hfl:=hf.len;have hfe:=hf.le;have hfo:=hf.loops;rw [hs2l] at hfe
    rw [hs2o] at hfo
    have e:Jr bs rec s={(((r.put [(2,(5+(s.loops:Int))),(0,1),(5,0),(3,(5+(s.loops:Int))),(6,((s.code.length+2:Nat):Int))]).to (s.code.length+3) ((r.code.length+5:Nat):Int)).put [(0,0),(3,(5+(s.loops:Int)))]) with loops:=r.loops - 1}:=by
      unfold Jr;rw [if_neg h3];dsimp only;rw [<-Kp,<-MS,<-hr,hs1l,DV]
      rfl
    rw [e];clear e;have e1:((s.loops:Nat):Int)+1=((s.loops+1:Nat):Int):=by omega
    have e4:(((s.code.length+4:Nat):Nat):Int) - 1=((s.code.length+3:Nat):Int):=by omega
    have e7:((r.loops:Nat):Int) - 1=((r.loops - 1:Nat):Int):=by omega
    refine CM Tryz.func102 rfl (Nat.le_of_ble_eq_true rfl) fun F=> ?_
    repeat' (first|apply Cv|refine Ct 0 Cr Ag ?_|refine Ct 1 Cr Ao ?_|refine CY 2 Cr Al Ab ?_|refine Ct 3 Cr Af ?_|refine Ct 5 Cr Ak ?_|refine CN ?_|refine Cu ?_|apply Cw|refine Cy ?_|refine CF ?_|apply CB)
    rw [e1]
    repeat' (first|refine CW rfl rfl rfl (D1 (b:=2) rfl rfl rfl Ah) ?_|apply Cv|refine Ct 0 Cr Ag ?_|refine Ct 1 Cr Ao ?_|refine Ct 3 Cr Af ?_|refine Ct 4 Cr Ae ?_|(refine gk 4 rfl ?_;(refine CK rfl rfl rfl rfl rfl rfl rfl rfl (ID p J bs s.at_ (s.loops+1) kb s.code.length kc Lf Ab Ma hb) ?_;rintro _ _ ⟨rfl,rfl⟩;refine⟨_,_,rfl,rfl,?_⟩))|(refine gk 4 rfl ?_;(refine CK rfl rfl rfl rfl rfl rfl rfl rfl (UW p (({s with loops:=s.loops+1}:Mk).nx) (s.at_+1) (s.loops+1) kb s.code.length kc HC _ _ _ [i64 0,i64 (1+((Dj bs s.at_%2:Nat):Int)),i64 3,i64 (5+(s.loops:Int))] [(0,(1+((Dj bs s.at_%2:Nat):Int))),(3,(5+(s.loops:Int)))] (s.code.length+2) rfl rfl Av Bw rfl rfl Ge Ab) ?_;rintro _ _ ⟨HC1,FH,FG,rfl,rfl,E2⟩;refine⟨_,_,rfl,rfl,?_⟩))|refine Ct 5 Cr Ak ?_|refine CP (fun b=> ?_)|refine Cu ?_|apply Cw)
    rw [<-Kp] at E2
    repeat' (first|apply Cv|refine Ct 0 Cr Ag ?_|refine Ct 1 Cr AF ?_|refine Ct 3 Cr Af ?_|refine Ct 4 Cr Ae ?_|(refine gk 4 rfl ?_;(refine CK rfl rfl rfl rfl rfl rfl rfl rfl (UW p s1 (s.at_+1) (s.loops+1) FH (s.code.length+2) FG HC1 _ _ _ [i64 2,i64 (5+(s.loops:Int)),i64 7,i64 0] [(2,(5+(s.loops:Int))),(7,0)] (s.code.length+4) Ad Ad Ad Bw rfl rfl E2 Ab) ?_;rintro _ _ ⟨HC2,Kl,Kk,rfl,rfl,G3⟩;refine⟨_,_,rfl,rfl,?_⟩))|refine Ct 5 Cr Ak ?_|refine Cu ?_|apply Cw)
    rw [<-MS] at G3
    have L8:SL.T Tryz.prog 59 [pM p,i64 (d - 1)] [mC p (s.at_+1) (s.loops+1) Kl (s.code.length+4) Kk,HC2,HL,J] (MQ p J r):=by
      have:=hc HC2 Kl Kk HL (by rw [hs2l];exact G3) (by rw [hs2k];exact IA);have e6:mB p s2 Kl Kk=mC p (s.at_+1) (s.loops+1) Kl (s.code.length+4) Kk:=by
        show mC p s2.at_ s2.loops Kl s2.code.length Kk=_;rw [hs2a,hs2o,hs2l]
      rwa [e6] at this
    repeat' (first|apply Cv|refine Ct 0 Cr Ap ?_|(refine gk 4 rfl ?_;(refine CK rfl rfl rfl rfl rfl rfl rfl rfl (L8) ?_;rintro _ _ ⟨HC3,kb3,kc3,HL2,rfl,rfl,O3,osL2⟩;refine⟨_,_,rfl,rfl,?_⟩))|(refine gk 4 rfl ?_;(refine CK rfl rfl rfl rfl rfl rfl rfl rfl (UW p r r.at_ r.loops kb3 r.code.length kc3 HC3 _ _ _ [i64 2,i64 (5+(s.loops:Int)),i64 0,i64 1,i64 5,i64 0,i64 3,i64 (5+(s.loops:Int)),i64 6,i64 ((s.code.length+2:Nat):Int)] [(2,(5+(s.loops:Int))),(0,1),(5,0),(3,(5+(s.loops:Int))),(6,((s.code.length+2:Nat):Int))] (r.code.length+5) rfl rfl Av Bw rfl rfl O3 Ab) ?_;rintro _ _ ⟨HC4,kb4,kc4,rfl,rfl,os4⟩;refine⟨_,_,rfl,rfl,?_⟩))|refine CP (fun b=> ?_)|refine Cu ?_|apply Cw)
    rw [e4];haveI slC4:=os4.sl;have hll:(r.put [(2,(5+(s.loops:Int))),(0,1),(5,0),(3,(5+(s.loops:Int))),(6,((s.code.length+2:Nat):Int))]).code.length=r.code.length+5:=by rw [DV];rfl
    have hll2:((r.put [(2,(5+(s.loops:Int))),(0,1),(5,0),(3,(5+(s.loops:Int))),(6,((s.code.length+2:Nat):Int))]).to (s.code.length+3) ((r.code.length+5:Nat):Int)).code.length=r.code.length+5:=by simp only [Mk.to,GA];exact hll
    have hll3:(((r.put [(2,(5+(s.loops:Int))),(0,1),(5,0),(3,(5+(s.loops:Int))),(6,((s.code.length+2:Nat):Int))]).to (s.code.length+3) ((r.code.length+5:Nat):Int)).put [(0,0),(3,(5+(s.loops:Int)))]).code.length=r.code.length+7:=by rw [DV,hll2];rfl
    have hkk:((s.code.length+3:Nat):Int).toNat*3<(CZ (r.put [(2,(5+(s.loops:Int))),(0,1),(5,0),(3,(5+(s.loops:Int))),(6,((s.code.length+2:Nat):Int))]).code).length:=by rw [Dc,hll];simp;omega
    have hkk1:((s.code.length+3:Nat):Int).toNat*3+1<(CZ (r.put [(2,(5+(s.loops:Int))),(0,1),(5,0),(3,(5+(s.loops:Int))),(6,((s.code.length+2:Nat):Int))]).code).length:=by rw [Dc,hll];simp;omega
    refine C0 [.q [0,1,2,3,4,5,6,7,8,9,10,11],.h true 12] [mC p r.at_ r.loops kb4 (r.code.length+5) kc4] Ac Ac Ac Ac ?_
    repeat' (first|apply Cv|refine Ct 0 Cr Ap ?_|refine Ct 1 Cr AF ?_|refine Ct 3 Cr Ci ?_|refine Ct 4 Cr Ae ?_|(refine gk 4 rfl ?_;(refine CK rfl rfl rfl rfl rfl rfl rfl rfl (UW p ((r.put [(2,(5+(s.loops:Int))),(0,1),(5,0),(3,(5+(s.loops:Int))),(6,((s.code.length+2:Nat):Int))]).to (s.code.length+3) ((r.code.length+5:Nat):Int)) r.at_ r.loops kb4 (r.code.length+5) kc4 ax _ _ _ [i64 0,i64 0,i64 3,i64 (5+(s.loops:Int))] [(0,0),(3,(5+(s.loops:Int)))] (r.code.length+7) rfl rfl Ad Bw rfl rfl bI Ab) ?_;rintro _ _ ⟨HC5,kb5,kc5,rfl,rfl,os5⟩;refine⟨_,_,rfl,rfl,?_⟩))|refine Ct 5 Cr Ak ?_|refine CP (fun b=> ?_)|refine CN ?_|refine Cu ?_|refine C5 ?_|refine Dd rfl ?_|refine Ew rfl rfl rfl rfl rfl rfl os4 rfl rfl rfl (Nat.succ_pos _) (by exact hkk1) (OF ((r.code.length+5:Nat):Int) (by rw [hll];omega)) (fun ax bI=> ?_)|apply Cw)
    rw [e7];refine HR [mC p r.at_ (r.loops - 1) kb5 (r.code.length+7) kc5,HC5,HL2,J] Dt ⟨HC5,kb5,kc5,HL2,?_,rfl,?_,osL2⟩
    · rw [<-hll3];rfl
    · show OS HC5 kb5 (((r.put [(2,(5+(s.loops:Int))),(0,1),(5,0),(3,(5+(s.loops:Int))),(6,((s.code.length+2:Nat):Int))]).to (s.code.length+3) ((r.code.length+5:Nat):Int)).put [(0,0),(3,(5+(s.loops:Int)))]).code.length kc5 24 3 _;rw [hll3];exact os5
end Go.Proofs.YtcnmnmjmpocepaaGreatDoor
end
