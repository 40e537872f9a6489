
import Derived.Test.YtcnmnmjmpocepaaGreatDoorU00
import Derived.Test.YtcnmnmjmpocepaaGreatDoorU11
import Derived.Test.YtcnmnmjmpocepaaGreatDoorU22
import Derived.Test.YtcnmnmjmpocepaaGreatDoorU27
set_option linter.unusedVariables false
set_option linter.unusedSimpArgs false
set_option linter.unusedSectionVars false
set_option maxRecDepth 100000
set_option maxHeartbeats 16000000
namespace Go.Proofs.YtcnmnmjmpocepaaGreatDoor
open Go.SL
open Kd
abbrev Mx(x:Nat):Value:= .int .u8 (x:Int)
structure HB where
  E7:Nat
  bb:Option Addr
  bn:Nat
  bc:Nat
  own:Nat
  lb:Option Addr
abbrev mC(p:HB)(at_ loops:Nat)(kb:Option Addr)(kn kc:Nat):B6:=
  Co p.E7 (.cells ⟨[.slice p.bb p.bn p.bc,i64 (at_:Int),i64 (p.own:Int),.slice kb kn kc,.slice p.lb 5 5,i64 (loops:Int)]⟩ 136 (0,0))
abbrev mB(p:HB)(s:Mk)(kb:Option Addr)(kc:Nat):B6:=mC p s.at_ s.loops kb s.code.length kc
abbrev pM(p:HB):Value:= .pointer (some ⟨p.E7,0,none⟩)
abbrev Pg(l:List Bool):List Value:=l.map .bool
def MQ(p:HB)(J:B6)(s':Mk)(e:Ending)(o:List B6):Prop:=
  ∃HC kb kc HL,o= [mB p s' kb kc,HC,HL,J]/\e= .returned (.tuple #[])/\OS HC kb s'.code.length kc 24 3 (Cp s'.code)/\OS HL p.lb 5 5 4 1 (Pg s'.locked)
def MT(p:HB)(J:B6)(f:FuncId)(args:List Value)(s s':Mk):Prop:=
  ∀HC kb kc HL,OS HC kb s.code.length kc 24 3 (Cp s.code)->OS HL p.lb 5 5 4 1 (Pg s.locked)->SL.T Tryz.prog f (pM p::args) [mB p s kb kc,HC,HL,J] (MQ p J s')
def H5(l:List (Int×Int)):List Value:=l.flatMap fun x=> [i64 x.1,i64 x.2]
theorem LG:∀(l:List (Int×Int)),(H5 l).length=2*l.length
  | []=>rfl
  | x::l=>by
    have:=LG l;simp [H5] at this ⊢;omega
theorem S0:∀ {l:List (Int×Int)} {i:Nat} {x:Int×Int},l[i]?=some x->(H5 l)[2*i]?=some (i64 x.1)/\(H5 l)[2*i+1]?=some (i64 x.2)
  | [],i,x,h=>by simp at h
  |y::l,0,x,h=>by simp at h;subst h;simp [H5]
  | y::l,i+1,x,h=>by
    have:=S0 (l:=l) (i:=i) (x:=x) (by simpa using h);have e:2*(i+1)=2*i+1+1:=by omega
    rw [e];simpa [H5] using this
theorem F4:∀(l m:List Ins),Cp (l++m)=Cp l++Cp m
  | [],m=>rfl
  |x::l,m=>by simp [Cp,F4 l m]
theorem Ur(l:List (Int×Int))(j:Nat)(x:Int×Int)(h:l[j]?=some x):CJ (l.take (j+1))=CJ (l.take j)++ [⟨x.1,x.2,0⟩]:=by
  rw [List.take_add_one,h];simp [CJ]
theorem Dm{P:Program}{own:List B6}{n:Nat}{o:Oper}{env:Env}{t u:TypeId}{x y:Operand}{k:IntKind}{a b:Nat}(ho:o.op= .binOp .rem t x y u)(hx:ev env x=some (.int k (a:Int)))(hy:ev env y=some (.int k (b:Int)))(hb:0<b):Dc P own n o env (.int k ((a%b:Nat):Int)):=by
  have h:=Ho (P:=P) (own:=own) (n:=n) ho hx hy Ab;have e:Int.tmod (a:Int) (b:Int)=((a%b:Nat):Int):=by rw [Int.tmod_eq_emod_of_nonneg Ab];omega
  rwa [e] at h
theorem NV{P:Program}{own:List B6}{n:Nat}{o:Oper}{env:Env}{t u:TypeId}{x y:Operand}{a b:Nat}(ho:o.op= .binOp .quo t x y u)(hx:ev env x=some (.int .i64 (a:Int)))(hy:ev env y=some (.int .i64 (b:Int)))(hb:0<b)(ha:a≤1000000):Dc P own n o env (.int .i64 ((a/b:Nat):Int)):=by
  have h:=QG (P:=P) (own:=own) (n:=n) ho hx hy Ab;have hle:a/b≤a:=Nat.div_le_self a b;have e:IntKind.i64.wrap (Int.tdiv (a:Int) (b:Int))=((a/b:Nat):Int):=by
    rw [Int.tdiv_eq_ediv_of_nonneg Ab,<-Int.natCast_ediv]
    generalize a/b=q at hle
    exact C8 Ab Ab
  rwa [e] at h
structure SP where
  j:Nat
  len:Nat
  H:B6
  kb:Option Addr
  kc:Nat
attribute [local irreducible] SL.T C7 Dc C6 Db DS Du
theorem Hc(p:HB)(J:B6)(b:List Nat)(at_ loops:Nat)(kb:Option Addr)(kn kc:Nat) [sl:Sl J p.bb (b.map Mx)](hl:b.length=p.bn)(E5:at_≤1000000)(DE:p.bn≤1000000)(hb:∀x∈b,x≤255):
    SL.T Tryz.prog 97 [pM p] [mC p at_ loops kb kn kc,J] fun e o=>o= [mC p (at_+1) loops kb kn kc,J]/\e= .returned (i64 (CK b at_:Int)):=by
  by_cases h:at_<p.bn
  · obtain⟨x,hx⟩:∃z,b[at_]?=some z:=⟨_,List.getElem?_eq_getElem Ab⟩;have hx2:=hb x (List.mem_of_getElem? hx);have e:CK b at_=x:=by simp [CK,List.getD,hx]
    rw [e];have e2:(((at_+1:Nat):Int) - 1).toNat*1=at_:=by omega
    have hct:(b.map Mx)[(((at_+1:Nat):Int) - 1).toNat*1]?=some (Mx x):=by rw [e2];simp [hx]
    have hk:(((at_+1:Nat):Int) - 1).toNat*1<(b.map Mx).length:=by rw [e2];simp;omega
    have e1:((at_:Nat):Int)+1=((at_+1:Nat):Int):=by omega
    refine Ch Tryz.func97 rfl (Nat.le_of_ble_eq_true rfl) fun F=> ?_
    repeat' (first|apply B4|refine B3 0 BY Af ?_|refine B3 1 BY Ap ?_|refine B3 3 BY Ah ?_|refine B3 5 BY Al ?_|refine Ck ?_|refine B0 ?_|apply B5)
    rw [e1];refine C5 Ac Ac rfl ?_
    repeat' (first|apply B4|refine B3 0 BY Am ?_|refine CE 2 BY AU Ab ?_|refine B3 3 BY Ah ?_|refine B3 4 BY Ag ?_|refine B3 5 BY Al ?_|apply B5|refine B8 ?_|refine Cg ?_|apply Cc)
    refine C5 Ac Ac rfl ?_
    repeat' (first|refine Cq rfl rfl rfl ((CO rfl rfl).to (congrArg (Value.int .i64) (C8 Ab Ab))) ?_|refine B3 0 BY Af ?_|refine B3 1 BY Aw ?_|refine B3 3 BY AA ?_|refine B3 5 BY Al ?_|apply B5|refine B8 ?_|apply Cb)
    exact Cj [mC p (at_+1) loops kb kn kc,J] (Ce (B7 rfl)) ⟨rfl,rfl⟩
  · have e:CK b at_=0:=by simp [CK,List.getD,List.getElem?_eq_none (show b.length≤at_ by omega)]
    rw [e];have e1:((at_:Nat):Int)+1=((at_+1:Nat):Int):=by omega
    refine Ch Tryz.func97 rfl (Nat.le_of_ble_eq_true rfl) fun F=> ?_
    repeat' (first|apply B4|refine B3 0 BY Af ?_|refine B3 1 BY Ap ?_|refine B3 3 BY Ah ?_|refine B3 5 BY Al ?_|refine Ck ?_|refine B0 ?_|apply B5)
    rw [e1];refine C5 Ac Ac rfl ?_
    repeat' (first|apply B4|refine B3 0 BY Af ?_|refine Cs 2 BY AU Ab ?_|refine B3 3 BY Ah ?_|refine B3 4 BY Ag ?_|refine B3 5 BY Al ?_|refine B0 ?_|apply B5|refine B8 ?_|refine Cl ?_|apply Cb|refine Cx ?_)
    exact Cj [mC p (at_+1) loops kb kn kc,J] (Ce (B7 rfl)) ⟨rfl,rfl⟩
theorem T9(p:HB)(J:B6)(b:List Nat)(s:Mk)(kb:Option Addr)(kc:Nat) [sl:Sl J p.bb (b.map Mx)](hl:b.length=p.bn)(E5:s.at_≤1000000)(DE:p.bn≤1000000)(hb:∀x∈b,x≤255):
    SL.T Tryz.prog 97 [pM p] [mB p s kb kc,J] fun e o=>o= [mB p s.nx kb kc,J]/\e= .returned (i64 (CK b s.at_:Int)):=
  Hc p J b s.at_ s.loops kb s.code.length kc hl E5 DE hb
theorem Ej(p:HB)(s:Mk)(kb:Option Addr)(kc:Nat)(HC A:B6)(ab:Option Addr)(ac an:Nat)(l:List (Int×Int))(FK:OS HC kb s.code.length kc 24 3 (Cp s.code))(gY:Sl A ab (H5 l))(db:an=2*l.length)(DE:s.code.length+l.length≤1000000):
    SL.T Tryz.prog 58 [pM p,.slice ab an ac] [mB p s kb kc,HC,A] fun e o=>∃HC' kb' kc',o= [mB p (s.put l) kb' kc',HC',A]/\e= .returned (.tuple #[])/\OS HC' kb' (s.put l).code.length kc' 24 3 (Cp (s.put l).code):=by
  subst db;have hfl:=LG l;refine Ch Tryz.func58 rfl (Nat.le_of_ble_eq_true rfl) fun F=> ?_
  repeat' (first|apply B4|refine B3 0 BY Au ?_|refine B0 ?_|apply B5|refine B8 ?_|refine Cf ?_)
  refine CH (fun t:SP=> [(0,pM p),(1,.slice ab ((2*l.length:Nat)) ac),(4,i64 ((2*t.j:Nat):Int))]) (fun t=> [mC p s.at_ s.loops t.kb t.len t.kc,t.H,A])
    (fun t=>t.j≤l.length/\t.len=s.code.length+t.j/\OS t.H t.kb t.len t.kc 24 3 (Cp (s.code++CJ (l.take t.j)))) (fun t=>l.length - t.j) ⟨0,s.code.length,HC,kb,kc⟩ (by repeat first|exact Sub.nil _|refine Sub.cons rfl ?_) ⟨Nat.zero_le _,rfl,by simpa [CJ] using FK⟩ ?_
  rintro⟨j,n,H,EK,EJ⟩ ⟨hj,hn,os⟩;dsimp only at hj hn os ⊢
  by_cases Zp:j<l.length
  · obtain⟨x,hx⟩:∃z,l[j]?=some z:=⟨_,List.getElem?_eq_getElem Zp⟩;obtain⟨f1,f2⟩:=S0 hx;have e3:(((2*j:Nat):Int)+1).toNat*1=2*j+1:=by omega
    have e4:(((2*j:Nat):Int)).toNat*1=2*j:=by omega
    have P5:(H5 l)[(((2*j:Nat):Int)).toNat*1]?=some (i64 x.1):=by rw [e4];exact f1
    have LD:(H5 l)[(((2*j:Nat):Int)+1).toNat*1]?=some (i64 x.2):=by rw [e3];exact f2
    have br:(((2*j:Nat):Int)).toNat*1<(H5 l).length:=by omega
    have TB:(((2*j:Nat):Int)+1).toNat*1<(H5 l).length:=by omega
    repeat' (first|apply B4|refine B3 0 BY Am ?_|refine B3 1 BY Ap ?_|refine Cs 2 BY Aj Ab ?_|refine B3 4 BY Ag ?_|refine B0 ?_|apply B5|refine B8 ?_|refine Cl ?_|refine Cf ?_|apply Cc)
    refine Cu [.f [0],.q [1,2,3,4,5,6,7,8,9,10,11,12,13,14],.an 15,.rv 15,.h true 16,.q [17,18],.h true 19] [mC p s.at_ s.loops EK n EJ,A] Ac Ac Ac Ac ?_
    repeat' (first|refine B3 0 BY Af ?_|refine B3 1 BY Ap ?_|refine B3 3 BY AA ?_|refine B3 5 BY A4 ?_|refine B0 ?_|refine Cz ?_|refine CQ rfl ?_|refine FD rfl ?_|refine Dg rfl rfl AQ ?_|refine DL rfl rfl rfl (fun β=> ?_)|refine FP rfl (by decide +kernel) rfl rfl rfl rfl rfl Aa rfl Aa Aa ?_|refine FQ rfl rfl rfl rfl rfl rfl rfl rfl rfl os Ae rfl Ae rfl Ab Ab (fun h' b' c' HT=> ?_)|apply B5|refine B8 ?_)
    rw [show((2*j:Nat):Int)+2=((2*(j+1):Nat):Int) by omega];refine⟨rfl,⟨j+1,n+1,h',b',c'⟩,CA (by repeat first|exact Sub.nil _|refine Sub.cons rfl ?_),⟨Zp,by dsimp only;omega,?_⟩,by dsimp only;omega⟩;dsimp only;rw [Ur l j x hx,<-List.append_assoc,F4];exact HT
  · obtain rfl:j=l.length:=by omega
    subst hn;rw [List.take_length] at os
    repeat' (first|apply B4|refine B3 0 BY Am ?_|refine B3 1 BY Ap ?_|refine CE 2 BY Aj Ab ?_|refine B3 4 BY Ag ?_|refine B0 ?_|apply B5|refine B8 ?_|refine Cg ?_|refine CC ?_|refine Fl ?_|refine Fp ?_)
    have hl:=Dw s l;exact GB [mC p s.at_ s.loops EK (s.code.length+l.length) EJ,H,A] CU ⟨H,EK,EJ,by rw [<-hl];rfl,rfl,by rw [hl];exact os⟩
theorem Dh(p:HB)(s:Mk)(kb:Option Addr)(kc:Nat)(HC:B6)(Ha ac an:Nat)(cs:List Value)(l:List (Int×Int))(L2:cs=H5 l)(db:an=2*l.length)(FK:OS HC kb s.code.length kc 24 3 (Cp s.code))(DE:s.code.length+l.length≤1000000):
    SL.T Tryz.prog 58 [pM p,.slice (some ⟨Ha,0,none⟩) an ac] [mB p s kb kc,HC,Co Ha (.cells ⟨cs⟩ 3 (0,0))] fun e o=>∃HC' kb' kc',o= [mB p (s.put l) kb' kc',HC',Co Ha (.cells ⟨cs⟩ 3 (0,0))]/\e= .returned (.tuple #[])/\OS HC' kb' (s.put l).code.length kc' 24 3 (Cp (s.put l).code):=
  Ej p s kb kc HC _ _ ac an l FK (L2▸Sl.Co) db DE
theorem RO(p:HB)(s:Mk)(at_ loops:Nat)(kb:Option Addr)(kn kc:Nat)(HC:B6)(Ha ac an:Nat)(cs:List Value)(l:List (Int×Int))(k:Nat)(h1:s.at_=at_)(h2:s.loops=loops)(h3:s.code.length=kn)(h4:kn+l.length=k)(L2:cs=H5 l)(db:an=2*l.length)(FK:OS HC kb kn kc 24 3 (Cp s.code))(DE:k≤1000000):
    SL.T Tryz.prog 58 [pM p,.slice (some ⟨Ha,0,none⟩) an ac] [mC p at_ loops kb kn kc,HC,Co Ha (.cells ⟨cs⟩ 3 (0,0))] fun e o=>∃HC' kb' kc',o= [mC p at_ loops kb' k kc',HC',Co Ha (.cells ⟨cs⟩ 3 (0,0))]/\e= .returned (.tuple #[])/\OS HC' kb' k kc' 24 3 (Cp (s.put l).code):=by
  subst h1 h2 h3 h4;refine(Dh p s kb kc HC Ha ac an cs l L2 db FK Ab).mono ?_;rintro e o ⟨HC',kb',kc',rfl,rfl,os⟩;have hl:=Dw s l;refine⟨HC',kb',kc',by rw [<-hl];rfl,rfl,by rw [<-hl];exact os⟩
end Go.Proofs.YtcnmnmjmpocepaaGreatDoor
