
import Derived.Test.YtcnmnmjmpocepaaGreatDoorU00
import Derived.Test.YtcnmnmjmpocepaaGreatDoorU11
import Derived.Test.YtcnmnmjmpocepaaGreatDoorU32
import Derived.Test.YtcnmnmjmpocepaaGreatDoorU14
set_option linter.unusedVariables false
set_option linter.unusedSimpArgs false
set_option linter.unusedSectionVars false
set_option maxRecDepth 100000
set_option maxHeartbeats 16000000
section
namespace Go.Proofs.YtcnmnmjmpocepaaGreatDoor.Cd
open Go.SL
attribute [local irreducible] SL.T C7 Dc C6 Db DS Du
abbrev Zg(G:B6):Prop:=Sl G (some ⟨0,0,none⟩) [.iface 254 (.agg #[.pointer (some ⟨1,40,none⟩)])]
abbrev IY(β:Nat)(at_:Int):B6:=Co β (.cells ⟨[i64 7,i64 0,i64 at_]⟩ 43 (0,0))
abbrev Pp(β:Nat):Value:= .iface 180 (.agg ⟨[ptr β]⟩)
theorem TP{G:B6} [sg:Zg G](β:Nat)(at_:Int):C7 Tryz.prog 31 [Pp β] [IY β at_,G] (.agg ⟨[i64 7,i64 0,i64 at_]⟩):=by
  have ha:=fun b old=>du (G:=G) ⟨β,0,none⟩ b old
  revert ha
  generalize hβ:β=Rm
  intro ha;refine Ci Tryz.func31 rfl (Nat.le_of_ble_eq_true rfl) fun F=> ?_
  repeat' (first|refine Cq rfl rfl rfl (EN rfl rfl rfl) ?_|refine Cq rfl rfl rfl (KH rfl rfl) ?_|apply B4|refine B3 0 BY AT ?_|refine B3 3 BY AR ?_|(refine gk 4 rfl ?_;(refine B9 rfl rfl rfl rfl rfl rfl rfl rfl (ha _ (.pointer none)) ?_;rintro _ _ ⟨rfl,rfl⟩;refine⟨_,_,rfl,rfl,?_⟩))|refine B3 5 BY Al ?_|refine Cn (fun β=> ?_)|refine Ck ?_|refine B0 ?_|apply B5|refine B8 ?_|refine Cl ?_|apply Cb|refine Cx ?_)
  exact Cr (Ce (Cv rfl rfl rfl rfl)) rfl
def Dn:List UInt8->Nat
  | []=>0
  |b::l=>b.toNat+256*Dn l
def rd(s:List UInt8)(at_ many:Nat):Option Int:=if at_+many≤s.length then some (IntKind.i64.wrap (Dn ((s.drop at_).take many))) else none
def IB(s:List UInt8)(at_ many:Nat)(p:Int->Bool):Except Nat Int:=
  match rd s at_ many with
  |some n=>if p n then .ok n else .error at_
  |none=> .error at_
def dF(p:Nat)(e:Ending)(o:List B6):Prop:=∃β,e= .panicked [{v:=Pp β,recovered:=false}]/\o= [IY β (p:Int)]
theorem DB{P:Program}{fn:Func}{n:Nat}{env:Env}{own:List B6}{k:B6}{ch:List PanicEntry}{Q:Ending->List B6->Prop}(h:Q (.panicked ch) [k]):Kr P fn n Q (.panic ch) env (k::own) []:=
  ⟨k::own,[k],inferInstance,fun _ _ s=>s.sub Ak,h⟩
abbrev GL(β:Nat)(s:List UInt8)(at_:Nat):B6:=Co β (.cells ⟨[str s,i64 (at_:Int)]⟩ 184 (0,0))
theorem N2(β:Nat)(s:List UInt8)(a:Nat):C7 Tryz.prog 143 [ptr β,.bool true] [GL β s a] (.tuple #[]):=by
  refine Ci Tryz.func143 rfl (Nat.le_of_ble_eq_true rfl) fun F=> ?_
  repeat' (first|apply B4|refine B3 0 BY Bi ?_|refine B0 ?_|apply B5|refine B8 ?_|refine Cg ?_|apply Cc)
  exact Ox [GL β s a] CU (fun F w s=>s) ⟨rfl,rfl⟩
theorem Nk(β:Nat)(s:List UInt8)(a:Nat):SL.T Tryz.prog 143 [ptr β,.bool false] [GL β s a] (dF a):=by
  refine Ch Tryz.func143 rfl (Nat.le_of_ble_eq_true rfl) fun F=> ?_
  repeat' (first|refine Cq rfl rfl rfl (EN rfl rfl rfl) ?_|refine XG rfl rfl rfl ?_|apply B4|refine B3 0 BY Bs ?_|refine B3 3 BY Ah ?_|refine B3 5 BY A4 ?_|refine CF (fun β=> ?_)|refine B0 ?_|apply B5|refine B8 ?_|refine Cl ?_)
  exact DB ⟨_,rfl,rfl⟩
theorem UH(z:Int):C7 Tryz.prog 201 [i64 z] [] (.bool true):=by
  refine Ci Tryz.func201 rfl (Nat.le_of_ble_eq_true rfl) fun F=> ?_
  repeat' (first|apply B4|refine B3 0 BY Au ?_|refine B0 ?_|apply B5|refine B8 ?_|apply Cb)
  refine Cr (Ce (B7 rfl)) ?_
  rfl
theorem CZ(a b:Int):SL.T Tryz.prog 145 [i64 a,i64 b] [] fun e o=>∃Eu DZ,e= .returned (.func (.func 185) #[] #[ptr Eu,ptr DZ])/\o= [Co Eu (.cells ⟨[i64 a]⟩ 3 (0,0)),Co DZ (.cells ⟨[i64 b]⟩ 3 (0,0))]:=by
  refine Ch Tryz.func145 rfl (Nat.le_of_ble_eq_true rfl) fun F=> ?_
  repeat' (first|apply B4|refine B3 0 BY Ba ?_|refine CF (fun β=> ?_)|refine B0 ?_|apply B5|refine B8 ?_|apply Cb)
  exact Gd [_,_] (Ce (B7 rfl)) (fun F w s=>s.perm ((List.Perm.swap _ _ _).cons F)) ⟨_,_,rfl,rfl⟩
theorem SX(a b z:Int)(Eu DZ:Nat):C7 Tryz.prog 185 [i64 z,ptr Eu,ptr DZ] [Co Eu (.cells ⟨[i64 a]⟩ 3 (0,0)),Co DZ (.cells ⟨[i64 b]⟩ 3 (0,0))] (.bool (wi z a b)):=by
  have hw:=DG z a b;refine Ci Tryz.func185 rfl (Nat.le_of_ble_eq_true rfl) fun F=> ?_
  repeat' (first|apply B4|refine B3 0 BY Af ?_|refine B3 3 BY AD ?_|refine B3 4 BY (Ca rfl rfl rfl rfl rfl (hw)) ?_|refine B0 ?_|apply B5|refine B8 ?_|apply Cb)
  refine Cr (Ce (B7 rfl)) ?_
  rfl
end Go.Proofs.YtcnmnmjmpocepaaGreatDoor.Cd
end
section
namespace Go.Proofs.YtcnmnmjmpocepaaGreatDoor.Cd
open Go.SL
theorem VH{P:Program}{f:FuncId}{args:List Value}{h:B6}{hs:List B6}{Q:Ending->List B6->Prop}(t:SL.T P f args [h] Q):SL.T P f args (h::hs) Q:=by
  intro w X s;have s1:Sat ([h]++(hs++X)) w:=by simpa using s
  refine(t w (hs++X) s1).mono fun e w' ⟨own,s2,hq⟩=>⟨own,?_,hq⟩
  have s3:Sat ((own++X)++hs) w':=s2.perm (by simpa [List.append_assoc] using(List.perm_append_comm (l₁:=hs) (l₂:=X)).append_left own);exact s3.sub (List.sublist_append_left _ _)
theorem Vu{s:List UInt8}{a many:Nat}{p:Int->Bool}{n:Int}(h:rd s a many=some n)(hp:p n=true):IB s a many p= .ok n:=by unfold IB;rw [h];simp [hp]
theorem Vv{s:List UInt8}{a many:Nat}{p:Int->Bool}{n:Int}(h:rd s a many=some n)(hp:p n=false):IB s a many p= .error a:=by unfold IB;rw [h];simp [hp]
attribute [local irreducible] SL.T C7 Dc C6 Db DS Du
theorem KI:∀(l:List UInt8) (b:UInt8),Dn (l++ [b])=Dn l+256^l.length*b.toNat
  | [],b=>by simp [Dn]
  | c::l,b=>by
    simp only [List.cons_append,Dn,KI l b,List.length_cons,Nat.pow_succ];rw [Nat.mul_add,Nat.mul_comm (256^l.length) 256,Nat.mul_assoc,Nat.add_assoc]
theorem Js:∀(l:List UInt8),Dn l<256^l.length
  | []=>by simp [Dn]
  | c::l=>by
    have h1:=Js l;have h2:=c.toNat_lt;simp only [Dn,List.length_cons,Nat.pow_succ];omega
theorem Vf{n i b:Nat}(hn:n<256^i):n |||(b <<<(8*i))=n+256^i*b:=by
  have e:256^i=2^(8*i):=by rw [Nat.pow_mul]
  rw [e] at hn ⊢
  rw [Nat.or_comm,<-Nat.shiftLeft_add_eq_or_of_lt hn,Nat.shiftLeft_eq,Nat.mul_comm,Nat.add_comm]
theorem PH{i:Nat}(h:i<8):256^i*256≤2^64:=by
  have:256^i*256=2^(8*(i+1)):=by rw [<-Nat.pow_succ,Nat.pow_mul]
  rw [this];exact Nat.pow_le_pow_right Ae Ab
theorem P8(β:Nat)(s:List UInt8)(a many:Nat)(fv:Value)(hs:s.length≤9223372036854775807)(ha:a≤s.length)(hm:many≤8)(h:¬a+many≤s.length):
    SL.T Tryz.prog 144 [ptr β,i64 (many:Int),fv] [GL β s a] (dF a):=by
  have hn:=Nk β s a;have hlen:(s.length:Int) - (a:Int)<many:=by omega
  refine Ch Tryz.func144 rfl (Nat.le_of_ble_eq_true rfl) fun F=> ?_
  repeat' (first|apply B4|refine B3 0 BY Au ?_|refine B0 ?_|apply B5)
  refine Cu [.q [0,1,2,3,4,5,6,7,8,9,10,11,12],.h true 13] [] Ac Ac Ac Ac ?_
  repeat' (first|refine Cq rfl rfl rfl (EW rfl rfl rfl rfl rfl) ?_|refine B3 0 BY Am ?_|refine B3 1 BY Aw ?_|refine CE 2 BY AC Ab ?_|refine B3 3 BY Ah ?_|refine B3 5 BY Al ?_|refine CQ rfl ?_|(refine Kq rfl rfl rfl rfl rfl rfl rfl rfl (hn) (fun h=>by cases h) (fun _=> .inl ⟨_,List.Perm.refl _⟩) ?_;rintro _ _ ⟨D6,rfl,rfl⟩;refine .inr ⟨_,_,rfl,rfl,?_⟩;repeat (refine C9 ?_))|apply B5)
  exact DB ⟨_,rfl,rfl⟩
theorem YK(β:Nat)(s:List UInt8)(a many:Nat)(Eu DZ:Nat)(x y:Int)(hs:s.length≤9223372036854775807)(ha:a≤s.length)(hm:many≤8):
    SL.T Tryz.prog 144 [ptr β,i64 (many:Int),.func (.func 185) #[] #[ptr Eu,ptr DZ]] [GL β s a,Co Eu (.cells ⟨[i64 x]⟩ 3 (0,0)),Co DZ (.cells ⟨[i64 y]⟩ 3 (0,0))] fun e o=>
      (∃n,IB s a many (fun z=>wi z x y)= .ok n/\a+many≤s.length/\e= .returned (i64 n)/\o= [GL β s (a+many),Co Eu (.cells ⟨[i64 x]⟩ 3 (0,0)),Co DZ (.cells ⟨[i64 y]⟩ 3 (0,0))])∨(IB s a many (fun z=>wi z x y)= .error a/\dF a e o):=by
  by_cases h:a+many≤s.length
  · have P1:rd s a many=some (IntKind.i64.wrap (Dn ((s.drop a).take many))):=by unfold rd;rw [if_pos h]
    have hny:=N2 β s a;have WH:=Nk β s a;have hlen:(many:Int)≤(s.length:Int) - (a:Int):=by omega
    have hc:=fun z=>SX x y z Eu DZ
    refine Ch Tryz.func144 rfl (Nat.le_of_ble_eq_true rfl) fun F=> ?_
    repeat' (first|refine Cq rfl rfl rfl (EW rfl rfl rfl rfl rfl) ?_|apply B4|refine B3 0 BY Af ?_|refine B3 1 BY Aw ?_|refine Cs 2 BY AC Ab ?_|refine B3 3 BY Ah ?_|refine B3 4 BY (Ca rfl rfl rfl rfl rfl (hny)) ?_|refine B3 5 BY Al ?_|refine B0 ?_|refine C5 Ac Ac rfl ?_|apply B5|refine B8 ?_|refine Cf ?_)
    refine CH (fun i:Nat=> [(0,ptr β),(1,i64 (many:Int)),(2,.func (.func 185) #[] #[ptr Eu,ptr DZ]),(7,.int .u64 ((Dn ((s.drop a).take i):Nat):Int)),(23,i64 (many:Int)),(24,i64 (i:Int))])
      (fun _=> [GL β s a,Co Eu (.cells ⟨[i64 x]⟩ 3 (0,0)),Co DZ (.cells ⟨[i64 y]⟩ 3 (0,0))]) (fun i=>i≤many) (fun i=>many - i) 0 (by repeat first|exact Sub.nil _|refine Sub.cons rfl ?_) (Nat.zero_le _) ?_
    rintro i hi;by_cases TC:i<many
    · obtain⟨b,hb⟩:∃b,s[a+i]?=some b:=⟨_,List.getElem?_eq_getElem Ab⟩;have TE:s[((a:Int)+(i:Int)).toNat]?=some b:=by rw [show((a:Int)+(i:Int)).toNat=a+i by omega];exact hb
      have J4:=b.toNat_lt;have htk:(s.drop a).take (i+1)=(s.drop a).take i++ [b]:=by rw [List.take_add_one,List.getElem?_drop,hb];rfl
      have htl:((s.drop a).take i).length=i:=by rw [List.length_take,List.length_drop];omega
      have hN:=Js ((s.drop a).take i);rw [htl] at hN
      have hstep:Dn ((s.drop a).take (i+1))=Dn ((s.drop a).take i) |||(b.toNat <<<(8*i)):=by rw [htk,KI,htl,Vf hN]
      generalize Dn ((s.drop a).take i)=N at*
      have hp:=PH (show i<8 by omega);have hsh:b.toNat <<<(8*i)<2^64:=by
        rw [Nat.shiftLeft_eq,show 2^(8*i)=256^i by rw [Nat.pow_mul],Nat.mul_comm];exact Nat.lt_of_lt_of_le (Nat.mul_lt_mul_of_pos_left (show b.toNat<256 by omega) (Nat.pow_pos Ae)) hp
      have hN64:N<2^64:=Nat.lt_of_lt_of_le hN (Nat.le_trans (Nat.le_mul_of_pos_right _ Ae) hp);have hmul:Value.int .i64 (IntKind.i64.wrap (8*(i:Int)))=i64 ((8*i:Nat):Int):=by rw [C8 Ab Ab];simp
      have hcvb:Value.int .u64 (IntKind.u64.wrap ((b.toNat:Nat):Int))= .int .u64 ((b.toNat:Nat):Int):=by rw [Hu Ab]
      have hshl:Value.int .u64 (shl .u64 ((b.toNat:Nat):Int) ((8*i:Nat):Int))= .int .u64 ((b.toNat <<<(8*i):Nat):Int):=by rw [U8,Nat.mod_eq_of_lt hsh]
      have hor:Value.int .u64 (OI .or .u64 (N:Int) ((b.toNat <<<(8*i):Nat):Int))= .int .u64 ((Dn ((s.drop a).take (i+1)):Nat):Int):=by rw [XX hN64 hsh,hstep]
      clear hstep hN hp hsh hN64 htk htl hc hny WH P1
      repeat' (first|refine Cq rfl rfl rfl ((EM rfl rfl rfl).to hmul) ?_|refine Cq rfl rfl rfl ((CO rfl rfl).to hcvb) ?_|refine Cq rfl rfl rfl ((Nf rfl rfl rfl Ab).to hshl) ?_|refine Cq rfl rfl rfl ((Ls rfl rfl rfl Ae).to hor) ?_|refine Cq rfl rfl rfl (NW rfl rfl rfl Ab TE) ?_|apply B4|refine B3 0 BY Af ?_|refine B3 1 BY Ap ?_|refine Cs 2 BY Aj Ab ?_|refine B3 3 BY Ah ?_|refine B3 5 BY Al ?_|refine B0 ?_|refine C5 Ac Ac rfl ?_|apply B5|refine B8 ?_|refine Cl ?_|refine Cf ?_|apply Cc)
      exact⟨rfl,i+1,CA (by repeat first|exact Sub.nil _|refine Sub.cons rfl ?_),by omega,by omega⟩
    · obtain rfl:many=i:=by omega
      have hz:IntKind.i64.wrap (IntKind.u64.wrap (Dn ((s.drop a).take many)))=IntKind.i64.wrap (Dn ((s.drop a).take many)):=by
        rw [Hu];have:=Js ((s.drop a).take many);refine Nat.lt_of_lt_of_le this ?_;have e:((s.drop a).take many).length≤8:=by rw [List.length_take];omega
        exact Nat.le_trans (Nat.pow_le_pow_right Ae e) Ae
      generalize hn:IntKind.i64.wrap (Dn ((s.drop a).take many):Int)=n at*
      have hcv:Value.int .i64 (IntKind.i64.wrap (Dn ((s.drop a).take many):Int))=i64 n:=by rw [hn]
      cases hp:(fun z=>wi z x y) n with
      | true=>
        have hcz:=(hc n).to (congrArg Value.bool hp)
        repeat' (first|refine Cq rfl rfl rfl ((CO rfl rfl).to hcv) ?_|apply B4|refine B3 0 BY Af ?_|refine B3 1 BY Ap ?_|refine CE 2 BY Aj Ab ?_|refine B3 3 BY Ah ?_|refine B3 4 BY (Ca rfl rfl rfl rfl rfl (hcz)) ?_|refine B3 4 BY (Ca rfl rfl rfl rfl rfl (hny)) ?_|refine B3 5 BY Al ?_|refine Ck ?_|refine B0 ?_|apply B5|refine B8 ?_|refine Cg ?_|apply Cb|refine CC ?_)
        refine Gd [GL β s (a+many),Co Eu (.cells ⟨[i64 x]⟩ 3 (0,0)),Co DZ (.cells ⟨[i64 y]⟩ 3 (0,0))] (Ce (B7 rfl)) (fun F w q=> ?_) (.inl ⟨n,Vu P1 hp,h,rfl,rfl⟩);simp only [GL,Int.natCast_add];exact q
      | false=>
        have hcz:=(hc n).to (congrArg Value.bool hp)
        repeat' (first|refine Cq rfl rfl rfl ((CO rfl rfl).to hcv) ?_|apply B4|refine B3 0 BY Am ?_|refine CE 2 BY Aj Ab ?_|refine B3 4 BY (Ca rfl rfl rfl rfl rfl (hcz)) ?_|(refine gk 4 rfl ?_;(refine Ev rfl rfl rfl rfl rfl rfl rfl rfl (WH) ?_;rintro _ _ ⟨D6,rfl,rfl⟩;refine .inr ⟨_,rfl,?_⟩;repeat (refine C9 ?_)))|refine B0 ?_|apply B5|refine Cg ?_|refine CC ?_)
        exact DB (.inr ⟨Vv P1 hp,_,rfl,rfl⟩)
  · have hg:IB s a many (fun z=>wi z x y)= .error a:=by unfold IB rd;rw [if_neg h]
    exact(VH (P8 β s a many _ hs ha hm h)).mono fun e o hP=> .inr ⟨hg,hP⟩
theorem YL(β:Nat)(s:List UInt8)(a many:Nat)(hs:s.length≤9223372036854775807)(ha:a≤s.length)(hm:many≤8):
    SL.T Tryz.prog 144 [ptr β,i64 (many:Int),.func (.func 201) #[] #[]] [GL β s a] fun e o=>
      (∃n,IB s a many (fun _=>true)= .ok n/\a+many≤s.length/\e= .returned (i64 n)/\o= [GL β s (a+many)])∨(IB s a many (fun _=>true)= .error a/\dF a e o):=by
  by_cases h:a+many≤s.length
  · have P1:rd s a many=some (IntKind.i64.wrap (Dn ((s.drop a).take many))):=by unfold rd;rw [if_pos h]
    have hny:=N2 β s a;have WH:=Nk β s a;have hlen:(many:Int)≤(s.length:Int) - (a:Int):=by omega
    have hc:=fun z=>UH z
    refine Ch Tryz.func144 rfl (Nat.le_of_ble_eq_true rfl) fun F=> ?_
    repeat' (first|refine Cq rfl rfl rfl (EW rfl rfl rfl rfl rfl) ?_|apply B4|refine B3 0 BY Af ?_|refine B3 1 BY Aw ?_|refine Cs 2 BY AC Ab ?_|refine B3 3 BY Ah ?_|refine B3 4 BY (Ca rfl rfl rfl rfl rfl (hny)) ?_|refine B3 5 BY Al ?_|refine B0 ?_|refine C5 Ac Ac rfl ?_|apply B5|refine B8 ?_|refine Cf ?_)
    refine CH (fun i:Nat=> [(0,ptr β),(1,i64 (many:Int)),(2,.func (.func 201) #[] #[]),(7,.int .u64 ((Dn ((s.drop a).take i):Nat):Int)),(23,i64 (many:Int)),(24,i64 (i:Int))])
      (fun _=> [GL β s a]) (fun i=>i≤many) (fun i=>many - i) 0 (by repeat first|exact Sub.nil _|refine Sub.cons rfl ?_) (Nat.zero_le _) ?_
    rintro i hi;by_cases TC:i<many
    · obtain⟨b,hb⟩:∃b,s[a+i]?=some b:=⟨_,List.getElem?_eq_getElem Ab⟩;have TE:s[((a:Int)+(i:Int)).toNat]?=some b:=by rw [show((a:Int)+(i:Int)).toNat=a+i by omega];exact hb
      have J4:=b.toNat_lt;have htk:(s.drop a).take (i+1)=(s.drop a).take i++ [b]:=by rw [List.take_add_one,List.getElem?_drop,hb];rfl
      have htl:((s.drop a).take i).length=i:=by rw [List.length_take,List.length_drop];omega
      have hN:=Js ((s.drop a).take i);rw [htl] at hN
      have hstep:Dn ((s.drop a).take (i+1))=Dn ((s.drop a).take i) |||(b.toNat <<<(8*i)):=by rw [htk,KI,htl,Vf hN]
      generalize Dn ((s.drop a).take i)=N at*
      have hp:=PH (show i<8 by omega);have hsh:b.toNat <<<(8*i)<2^64:=by
        rw [Nat.shiftLeft_eq,show 2^(8*i)=256^i by rw [Nat.pow_mul],Nat.mul_comm];exact Nat.lt_of_lt_of_le (Nat.mul_lt_mul_of_pos_left (show b.toNat<256 by omega) (Nat.pow_pos Ae)) hp
      have hN64:N<2^64:=Nat.lt_of_lt_of_le hN (Nat.le_trans (Nat.le_mul_of_pos_right _ Ae) hp);have hmul:Value.int .i64 (IntKind.i64.wrap (8*(i:Int)))=i64 ((8*i:Nat):Int):=by rw [C8 Ab Ab];simp
      have hcvb:Value.int .u64 (IntKind.u64.wrap ((b.toNat:Nat):Int))= .int .u64 ((b.toNat:Nat):Int):=by rw [Hu Ab]
      have hshl:Value.int .u64 (shl .u64 ((b.toNat:Nat):Int) ((8*i:Nat):Int))= .int .u64 ((b.toNat <<<(8*i):Nat):Int):=by rw [U8,Nat.mod_eq_of_lt hsh]
      have hor:Value.int .u64 (OI .or .u64 (N:Int) ((b.toNat <<<(8*i):Nat):Int))= .int .u64 ((Dn ((s.drop a).take (i+1)):Nat):Int):=by rw [XX hN64 hsh,hstep]
      clear hstep hN hp hsh hN64 htk htl hc hny WH P1
      repeat' (first|refine Cq rfl rfl rfl ((EM rfl rfl rfl).to hmul) ?_|refine Cq rfl rfl rfl ((CO rfl rfl).to hcvb) ?_|refine Cq rfl rfl rfl ((Nf rfl rfl rfl Ab).to hshl) ?_|refine Cq rfl rfl rfl ((Ls rfl rfl rfl Ae).to hor) ?_|refine Cq rfl rfl rfl (NW rfl rfl rfl Ab TE) ?_|apply B4|refine B3 0 BY Af ?_|refine B3 1 BY Ap ?_|refine Cs 2 BY Aj Ab ?_|refine B3 3 BY Ah ?_|refine B3 5 BY Al ?_|refine B0 ?_|refine C5 Ac Ac rfl ?_|apply B5|refine B8 ?_|refine Cl ?_|refine Cf ?_|apply Cc)
      exact⟨rfl,i+1,CA (by repeat first|exact Sub.nil _|refine Sub.cons rfl ?_),by omega,by omega⟩
    · obtain rfl:many=i:=by omega
      have hz:IntKind.i64.wrap (IntKind.u64.wrap (Dn ((s.drop a).take many)))=IntKind.i64.wrap (Dn ((s.drop a).take many)):=by
        rw [Hu];have:=Js ((s.drop a).take many);refine Nat.lt_of_lt_of_le this ?_;have e:((s.drop a).take many).length≤8:=by rw [List.length_take];omega
        exact Nat.le_trans (Nat.pow_le_pow_right Ae e) Ae
      generalize hn:IntKind.i64.wrap (Dn ((s.drop a).take many):Int)=n at*
      have hcv:Value.int .i64 (IntKind.i64.wrap (Dn ((s.drop a).take many):Int))=i64 n:=by rw [hn]
      cases hp:(fun _=>true) n with
      | true=>
        have hcz:=(hc n).to (congrArg Value.bool hp)
        repeat' (first|refine Cq rfl rfl rfl ((CO rfl rfl).to hcv) ?_|apply B4|refine B3 0 BY Af ?_|refine B3 1 BY Ap ?_|refine CE 2 BY Aj Ab ?_|refine B3 3 BY Ah ?_|refine B3 4 BY (Ca rfl rfl rfl rfl rfl (hcz)) ?_|refine B3 4 BY (Ca rfl rfl rfl rfl rfl (hny)) ?_|refine B3 5 BY Al ?_|refine Ck ?_|refine B0 ?_|apply B5|refine B8 ?_|refine Cg ?_|apply Cb|refine CC ?_)
        refine Gd [GL β s (a+many)] (Ce (B7 rfl)) (fun F w q=> ?_) (.inl ⟨n,Vu P1 hp,h,rfl,rfl⟩);simp only [GL,Int.natCast_add];exact q
      | false=>
        have hcz:=(hc n).to (congrArg Value.bool hp)
        repeat' (first|refine Cq rfl rfl rfl ((CO rfl rfl).to hcv) ?_|apply B4|refine B3 0 BY Am ?_|refine CE 2 BY Aj Ab ?_|refine B3 4 BY (Ca rfl rfl rfl rfl rfl (hcz)) ?_|(refine gk 4 rfl ?_;(refine Ev rfl rfl rfl rfl rfl rfl rfl rfl (WH) ?_;rintro _ _ ⟨D6,rfl,rfl⟩;refine .inr ⟨_,rfl,?_⟩;repeat (refine C9 ?_)))|refine B0 ?_|apply B5|refine Cg ?_|refine CC ?_)
        exact DB (.inr ⟨Vv P1 hp,_,rfl,rfl⟩)
  · have hg:IB s a many (fun _=>true)= .error a:=by unfold IB rd;rw [if_neg h]
    exact(VH (P8 β s a many _ hs ha hm h)).mono fun e o hP=> .inr ⟨hg,hP⟩
end Go.Proofs.YtcnmnmjmpocepaaGreatDoor.Cd
end
section
namespace Go.Proofs.YtcnmnmjmpocepaaGreatDoor.Cd
open Go.SL
theorem Ld{own hs rest:List B6} [t:C1 own hs rest]:∀(F:B6) w,Sat (F::own) w->Sat (F::hs) w:=
  fun F w s=>(s.perm (t.perm.cons F)).sub (List.Sublist.cons_cons F (List.sublist_append_left _ _))
attribute [local irreducible] SL.T C7 Dc C6 Db DS Du
abbrev Rd(α:Type):=Nat->Except Nat (α×Nat)
def num(s:List UInt8)(many:Nat)(p:Int->Bool):Rd Int:=fun a=>match IB s a many p with| .ok n=> .ok (n,a+many)| .error e=> .error e
def rep{α:Type}(r:Rd α):Nat->Rd (List α)
  |0=>fun a=> .ok ([],a)
  | k+1=>fun a=>match rep r k a with
    | .ok (l,a1)=>match r a1 with| .ok (x,a2)=> .ok (l++ [x],a2)| .error e=> .error e
    | .error e=> .error e
def ER(s:List UInt8)(most cl:Int):Rd (List Int):=fun a=>match num s 1 (fun z=>wi z 0 most) a with
  | .ok (n,a1)=>rep (num s 1 fun z=>wi z 0 cl) n.toNat a1
  | .error e=> .error e
def Lz(s:List UInt8):Rd Ins:=fun a=>match num s 1 (fun _=>true) a with
  | .ok (o,a1)=>match num s 8 (fun _=>true) a1 with
    | .ok (x,a2)=>match num s 8 (fun _=>true) a2 with
      | .ok (y,a3)=> .ok (⟨o,x,y⟩,a3)
      | .error e=> .error e
    | .error e=> .error e
  | .error e=> .error e
theorem ar{s:List UInt8}{a many:Nat}{p:Int->Bool}{n:Int}(h:IB s a many p= .ok n):p n=true/\a+many≤s.length:=by
  unfold IB rd at h
  split at h
  · rename_i m hm
    split at hm
    · split at h
      · cases h;rename_i hp;exact⟨hp,by assumption⟩
      · cases h
    · cases hm
  · cases h
theorem Hb{s:List UInt8}{a b many:Nat}{p:Int->Bool}{n:Int}(h:num s many p a= .ok (n,b)):p n=true/\b=a+many/\b≤s.length:=by
  unfold num at h
  split at h
  · cases h
    obtain⟨h1,h2⟩:=ar Ad;exact⟨h1,rfl,h2⟩
  · cases h
def RQ{α:Type}(r:Except Nat (α×Nat))(A:α->Nat->Ending->List B6->Prop)(e:Ending)(o:List B6):Prop:=
  match r with| .ok (x,b)=>A x b e o| .error q=>dF q e o
theorem bJ{f:FuncId}{args:List Value}{hs:List B6}{s:List UInt8}{a many:Nat}{p:Int->Bool}{B:Nat->List B6}(h:SL.T Tryz.prog f args hs fun e o=>
      (∃n,IB s a many p= .ok n/\a+many≤s.length/\e= .returned (i64 n)/\o=B (a+many))∨(IB s a many p= .error a/\dF a e o)):
    SL.T Tryz.prog f args hs (RQ (num s many p a) fun n b e o=>e= .returned (i64 n)/\o=B b):=by
  refine T.mono h fun e o h=> ?_
  unfold RQ num;rcases h with ⟨n,h1,h2,h3,h4⟩|⟨h1,h2⟩
  · rw [h1];exact⟨h3,h4⟩
  · rw [h1];exact h2
theorem Gi(β:Nat)(s:List UInt8)(a many:Nat)(Eu DZ:Nat)(x y:Int)(hs:s.length≤9223372036854775807)(ha:a≤s.length)(hm:many≤8):
    SL.T Tryz.prog 144 [ptr β,i64 (many:Int),.func (.func 185) #[] #[ptr Eu,ptr DZ]] [GL β s a,Co Eu (.cells ⟨[i64 x]⟩ 3 (0,0)),Co DZ (.cells ⟨[i64 y]⟩ 3 (0,0))]
      (RQ (num s many (fun z=>wi z x y) a) fun n b e o=>e= .returned (i64 n)/\o= [GL β s b,Co Eu (.cells ⟨[i64 x]⟩ 3 (0,0)),Co DZ (.cells ⟨[i64 y]⟩ 3 (0,0))]):=
  bJ (B:=fun b=> [GL β s b,Co Eu (.cells ⟨[i64 x]⟩ 3 (0,0)),Co DZ (.cells ⟨[i64 y]⟩ 3 (0,0))]) (YK β s a many Eu DZ x y hs ha hm)
theorem KR(β:Nat)(s:List UInt8)(a many:Nat)(hs:s.length≤9223372036854775807)(ha:a≤s.length)(hm:many≤8):
    SL.T Tryz.prog 144 [ptr β,i64 (many:Int),.func (.func 201) #[] #[]] [GL β s a]
      (RQ (num s many (fun _=>true) a) fun n b e o=>e= .returned (i64 n)/\o= [GL β s b]):=
  bJ (B:=fun b=> [GL β s b]) (YL β s a many hs ha hm)
theorem Sp(Dq β DZ:Nat)(s:List UInt8)(a:Nat)(cl:Int)(hs:s.length≤9223372036854775807)(ha:a≤s.length):
    SL.T Tryz.prog 187 [ptr Dq,ptr DZ] [Co Dq (.cells ⟨[ptr β]⟩ 182 (0,0)),Co DZ (.cells ⟨[i64 cl]⟩ 3 (0,0)),GL β s a]
      (RQ (num s 1 (fun z=>wi z 0 cl) a) fun n b e o=>e= .returned (i64 n)/\o= [Co Dq (.cells ⟨[ptr β]⟩ 182 (0,0)),Co DZ (.cells ⟨[i64 cl]⟩ 3 (0,0)),GL β s b]):=by
  have hg:=fun b1 b2=>Gi β s a 1 b1 b2 0 cl hs ha Ae
  cases hn:num s 1 (fun z=>wi z 0 cl) a with
  | ok r=>
    obtain⟨n,b⟩:=r;rw [hn] at hg
    refine Ch Tryz.func187 rfl (Nat.le_of_ble_eq_true rfl) fun F=> ?_
    repeat' (first|apply B4|refine B3 0 BY Au ?_|refine B0 ?_|apply B5)
    refine Cu [.q [0,1],.h false 2,.h true 3,.q [4]] [] Ac Ac Ac Ac ?_
    repeat' (first|refine B3 0 BY Au ?_|refine B3 3 BY AD ?_|refine Cz ?_|refine CQ rfl ?_|(refine D0 rfl rfl rfl rfl rfl rfl rfl rfl (CZ 0 cl) (by rintro _ _ ⟨b1,b2,rfl,rfl⟩;exact⟨_,rfl⟩) ?_;rintro _ _ ⟨b1,b2,rfl,rfl⟩;refine⟨_,_,rfl,rfl,?_⟩)|(refine Fx rfl rfl rfl rfl rfl rfl rfl rfl (hg _ _) ?_;rintro _ _ ⟨rfl,rfl⟩;refine⟨_,_,rfl,rfl,?_⟩)|apply B5|refine B8 ?_|apply Cb)
    exact Gd [Co Dq (.cells ⟨[ptr β]⟩ 182 (0,0)),Co DZ (.cells ⟨[i64 cl]⟩ 3 (0,0)),GL β s b] (Ce (B7 rfl)) Ld ⟨rfl,rfl⟩
  | error q=>
    rw [hn] at hg
    refine Ch Tryz.func187 rfl (Nat.le_of_ble_eq_true rfl) fun F=> ?_
    repeat' (first|apply B4|refine B3 0 BY Au ?_|refine B0 ?_|apply B5)
    refine Cu [.q [0,1],.h false 2,.h true 3,.q [4]] [] Ac Ac Ac Ac ?_
    repeat' (first|refine B3 3 BY AD ?_|refine CQ rfl ?_|(refine D0 rfl rfl rfl rfl rfl rfl rfl rfl (CZ 0 cl) (by rintro _ _ ⟨b1,b2,rfl,rfl⟩;exact⟨_,rfl⟩) ?_;rintro _ _ ⟨b1,b2,rfl,rfl⟩;refine⟨_,_,rfl,rfl,?_⟩)|(refine Kq rfl rfl rfl rfl rfl rfl rfl rfl (hg _ _) (fun h=>by cases h) (fun _=> .inl ⟨_,List.Perm.refl _⟩) ?_;rintro _ _ ⟨D6,rfl,rfl⟩;refine .inr ⟨_,_,rfl,rfl,?_⟩;repeat (refine C9 ?_))|apply B5)
    exact DB ⟨_,rfl,rfl⟩
end Go.Proofs.YtcnmnmjmpocepaaGreatDoor.Cd
end
section
namespace Go.Proofs.YtcnmnmjmpocepaaGreatDoor.Cd
open Go.SL
theorem Qx{α:Type}{r:Rd α}{a b q:Nat}{l:List α}:∀ {j n:Nat},j<n->rep r j a= .ok (l,b)->r b= .error q->rep r n a= .error q:=by
  intro j n;induction n with
  |zero=>intro h;omega
  | succ n ih=>
    intro h h1 h2;by_cases e:j=n
    · subst e;simp only [rep,h1,h2]
    · simp only [rep,ih Ab h1 h2]
theorem Nc{α:Type}{r:Rd α}{a b:Nat}:∀ {n:Nat} {l:List α},rep r n a= .ok (l,b)->l.length=n:=by
  intro n;induction n generalizing b with
  |zero=>intro l h;simp only [rep] at h;cases h;rfl
  | succ n ih=>
    intro l h;simp only [rep] at h
    split at h
    · split at h
      · cases h
        rename_i h1 _ _ _
        simp [ih h1]
      · cases h
    · cases h
attribute [local irreducible] SL.T C7 Dc C6 Db DS Du
theorem Uq(E9:Nat)(s:List UInt8)(a:Nat)(hs:s.length≤9223372036854775807)(ha:a≤s.length):
    SL.T Tryz.prog 189 [ptr E9] [GL E9 s a] (RQ (Lz s a) fun y b e o=>e= .returned (.agg ⟨[i64 y.op,i64 y.a,i64 y.b]⟩)/\o= [GL E9 s b]):=by
  have g1:=KR E9 s a 1 hs ha Ae;unfold Lz;cases h1:num s 1 (fun _=>true) a with
  | error q=>
    rw [h1] at g1
    refine Ch Tryz.func189 rfl (Nat.le_of_ble_eq_true rfl) fun F=> ?_
    repeat' (first|apply B4|refine B3 0 BY Am ?_|(refine gk 4 rfl ?_;(refine Ev rfl rfl rfl rfl rfl rfl rfl rfl (g1) ?_;rintro _ _ ⟨D6,rfl,rfl⟩;refine .inr ⟨_,rfl,?_⟩;repeat (refine C9 ?_)))|refine Cn (fun β=> ?_)|refine B0 ?_|apply B5)
    exact DB ⟨_,rfl,rfl⟩
  | ok r1=>
    obtain⟨n1,b1⟩:=r1;rw [h1] at g1
    have g2:=KR E9 s b1 8 hs (Hb h1).2.2 Ae;dsimp only;cases h2:num s 8 (fun _=>true) b1 with
    | error q=>
      rw [h2] at g2
      refine Ch Tryz.func189 rfl (Nat.le_of_ble_eq_true rfl) fun F=> ?_
      repeat' (first|apply B4|refine B3 0 BY Af ?_|(refine gk 4 rfl ?_;(refine B9 rfl rfl rfl rfl rfl rfl rfl rfl (g1) ?_;rintro _ _ ⟨rfl,rfl⟩;refine⟨_,_,rfl,rfl,?_⟩))|(refine gk 4 rfl ?_;(refine Ev rfl rfl rfl rfl rfl rfl rfl rfl (g2) ?_;rintro _ _ ⟨D6,rfl,rfl⟩;refine .inr ⟨_,rfl,?_⟩;repeat (refine C9 ?_)))|refine Cn (fun β=> ?_)|refine B0 ?_|apply B5)
      exact DB ⟨_,rfl,rfl⟩
    | ok r2=>
      obtain⟨n2,b2⟩:=r2;rw [h2] at g2
      have g3:=KR E9 s b2 8 hs (Hb h2).2.2 Ae;dsimp only;cases h3:num s 8 (fun _=>true) b2 with
      | error q=>
        rw [h3] at g3
        refine Ch Tryz.func189 rfl (Nat.le_of_ble_eq_true rfl) fun F=> ?_
        repeat' (first|apply B4|refine B3 0 BY Af ?_|(refine gk 4 rfl ?_;(refine B9 rfl rfl rfl rfl rfl rfl rfl rfl (g1) ?_;rintro _ _ ⟨rfl,rfl⟩;refine⟨_,_,rfl,rfl,?_⟩))|(refine gk 4 rfl ?_;(refine B9 rfl rfl rfl rfl rfl rfl rfl rfl (g2) ?_;rintro _ _ ⟨rfl,rfl⟩;refine⟨_,_,rfl,rfl,?_⟩))|(refine gk 4 rfl ?_;(refine Ev rfl rfl rfl rfl rfl rfl rfl rfl (g3) ?_;rintro _ _ ⟨D6,rfl,rfl⟩;refine .inr ⟨_,rfl,?_⟩;repeat (refine C9 ?_)))|refine Cn (fun β=> ?_)|refine B0 ?_|apply B5)
        exact DB ⟨_,rfl,rfl⟩
      | ok r3=>
        obtain⟨n3,b3⟩:=r3;rw [h3] at g3
        dsimp only;refine Ch Tryz.func189 rfl (Nat.le_of_ble_eq_true rfl) fun F=> ?_
        repeat' (first|apply B4|refine B3 0 BY Af ?_|(refine gk 4 rfl ?_;(refine B9 rfl rfl rfl rfl rfl rfl rfl rfl (g1) ?_;rintro _ _ ⟨rfl,rfl⟩;refine⟨_,_,rfl,rfl,?_⟩))|(refine gk 4 rfl ?_;(refine B9 rfl rfl rfl rfl rfl rfl rfl rfl (g2) ?_;rintro _ _ ⟨rfl,rfl⟩;refine⟨_,_,rfl,rfl,?_⟩))|(refine gk 4 rfl ?_;(refine B9 rfl rfl rfl rfl rfl rfl rfl rfl (g3) ?_;rintro _ _ ⟨rfl,rfl⟩;refine⟨_,_,rfl,rfl,?_⟩))|refine B3 5 BY Ar ?_|refine Cn (fun β=> ?_)|refine Ck ?_|refine B0 ?_|apply B5|refine B8 ?_|apply Cb)
        exact Gd [GL E9 s b3] (Ce (Cv rfl rfl rfl rfl)) Ld ⟨rfl,rfl⟩
structure SR where
  j:Nat
  a:Nat
  h:B6
  b:Option Addr
  c:Nat
  l:List Int
theorem Rz(n:Nat)(Dq β DZ:Nat)(s:List UInt8)(a:Nat)(cl:Int)(hs:s.length≤9223372036854775807)(ha:a≤s.length)(hn:n≤1000):
    SL.T Tryz.prog 186 [i64 (n:Int),.func (.func 187) #[] #[ptr Dq,ptr DZ]] [Co Dq (.cells ⟨[ptr β]⟩ 182 (0,0)),Co DZ (.cells ⟨[i64 cl]⟩ 3 (0,0)),GL β s a]
      (RQ (rep (num s 1 fun z=>wi z 0 cl) n a) fun l b e o=>∃h base cap,e= .returned (.slice base n cap)/\OS h base n cap 79 1 (l.map i64)/\b≤s.length/\l.length=n/\o= [h,Co Dq (.cells ⟨[ptr β]⟩ 182 (0,0)),Co DZ (.cells ⟨[i64 cl]⟩ 3 (0,0)),GL β s b]):=by
  refine Ch Tryz.func186 rfl (Nat.le_of_ble_eq_true rfl) fun F=> ?_
  refine DY ?_
  repeat' (first|apply B4|refine B3 0 BY Af ?_|refine B0 ?_|apply B5|refine B8 ?_|refine Cf ?_)
  refine CH (fun t:SR=> [(1,.func (.func 187) #[] #[ptr Dq,ptr DZ]),(4,.slice t.b t.j t.c),(5,i64 (n:Int)),(6,i64 (t.j:Int))])
    (fun t=> [t.h,Co Dq (.cells ⟨[ptr β]⟩ 182 (0,0)),Co DZ (.cells ⟨[i64 cl]⟩ 3 (0,0)),GL β s t.a])
    (fun t=>t.j≤n/\t.a≤s.length/\rep (num s 1 fun z=>wi z 0 cl) t.j a= .ok (t.l,t.a)/\OS t.h t.b t.j t.c 79 1 (t.l.map i64))
    (fun t=>n - t.j) ⟨0,a,emp,none,0,[]⟩ (by repeat first|exact Sub.nil _|refine Sub.cons rfl ?_) ⟨Nat.zero_le _,ha,rfl,OS.nil⟩ ?_
  rintro⟨j,x,h,b,c,l⟩ ⟨hj,hx,hr,os⟩;dsimp only at hj hx hr os ⊢
  by_cases Gs:j<n
  · have hk:=Sp Dq β DZ s x cl hs hx;cases h1:num s 1 (fun z=>wi z 0 cl) x with
    | error q=>
      rw [h1] at hk
      repeat' (first|apply B4|refine B3 0 BY Am ?_|refine Cs 2 BY Aj Ab ?_|(refine gk 4 rfl ?_;(refine Ev rfl rfl rfl rfl rfl rfl rfl rfl (hk) ?_;rintro _ _ ⟨D6,rfl,rfl⟩;refine .inr ⟨_,rfl,?_⟩;repeat (first|refine C9 ?_|refine JY ?_)))|refine B0 ?_|apply B5|refine Cl ?_|refine Cf ?_|apply Cc)
      rw [Qx Gs hr h1];exact DB ⟨_,rfl,rfl⟩
    | ok r=>
      obtain⟨z,y⟩:=r;rw [h1] at hk
      repeat' (first|apply B4|refine B3 0 BY Af ?_|refine B3 1 BY Ap ?_|refine Cs 2 BY Aj Ab ?_|(refine gk 4 rfl ?_;(refine B9 rfl rfl rfl rfl rfl rfl rfl rfl (hk) ?_;rintro _ _ ⟨rfl,rfl⟩;refine⟨_,_,rfl,rfl,?_⟩))|refine gk 4 rfl (Ff rfl rfl rfl rfl rfl rfl rfl rfl rfl Ad As Ae As Ab Ab (fun h' b' c' HT TE=> ?_))|refine Cm (fun b=> ?_)|refine B0 ?_|apply B5|refine B8 ?_|refine Cl ?_|refine Cf ?_|apply Cc)
      refine⟨rfl,⟨j+1,y,h',b',c',l++ [z]⟩,CA (by repeat first|exact Sub.nil _|refine Sub.cons rfl ?_),⟨by dsimp only;omega,(Hb h1).2.2,by simp only [rep,hr,h1],?_⟩,by dsimp only;omega⟩;dsimp only;simpa using HT
  · obtain rfl:j=n:=by omega
    repeat' (first|apply B4|refine B3 0 BY Af ?_|refine CE 2 BY Aj Ab ?_|refine B0 ?_|apply B5|refine B8 ?_|refine Cg ?_|apply Cb|refine CC ?_)
    rw [hr];exact Gd [h,Co Dq (.cells ⟨[ptr β]⟩ 182 (0,0)),Co DZ (.cells ⟨[i64 cl]⟩ 3 (0,0)),GL β s x] (Ce (B7 rfl)) Ld ⟨h,b,c,rfl,os,hx,Nc hr,rfl⟩
end Go.Proofs.YtcnmnmjmpocepaaGreatDoor.Cd
end
section
namespace Go.Proofs.YtcnmnmjmpocepaaGreatDoor.Cd
open Go.SL
theorem G5{P:Program}{n:Nat}{fn:Func}{env:Env}{own own1:List B6}{ds:List Deferred}{v:Value}{Q:Ending->List B6->Prop}(hs:List B6){rest:List B6} [m:Marks ds own own1] [t:C1 own1 hs rest](hr:Hj P fn.results.toList own1 env n v)
    (hq:Q (.returned v) hs):Kr P fn n Q .ret env own ds:=⟨v,own1,hs,m,hr,Ld,hq⟩
attribute [local irreducible] SL.T C7 Dc C6 Db DS Du
theorem Lx(E9:Nat)(s:List UInt8)(a:Nat)(most cl:Int)(hs:s.length≤9223372036854775807)(ha:a≤s.length)(hm:most≤1000):
    SL.T Tryz.prog 148 [ptr E9,i64 most,i64 cl] [GL E9 s a]
      (RQ (ER s most cl a) fun l b e o=>∃h base cap,e= .returned (.slice base l.length cap)/\OS h base l.length cap 79 1 (l.map i64)/\b≤s.length/\l.length≤1000/\o= [h,GL E9 s b]):=by
  have g1:=fun b1 b2=>Gi E9 s a 1 b1 b2 0 most hs ha Ae
  unfold ER;cases h1:num s 1 (fun z=>wi z 0 most) a with
  | error q=>
    rw [h1] at g1
    refine Ch Tryz.func148 rfl (Nat.le_of_ble_eq_true rfl) fun F=> ?_
    repeat' (first|apply B4|refine B3 0 BY Au ?_|refine CF (fun β=> ?_)|refine B0 ?_|apply B5)
    refine Cu [.q [0,1],.f [4],.h false 2,.h true 3,.h true 5,.q [6]] [] Ac Ac Ac Ac ?_
    repeat' (first|refine B3 0 BY Bb ?_|refine B3 3 BY AD ?_|refine CQ rfl ?_|refine FD rfl ?_|(refine D0 rfl rfl rfl rfl rfl rfl rfl rfl (CZ 0 most) (by rintro _ _ ⟨b1,b2,rfl,rfl⟩;exact⟨_,rfl⟩) ?_;rintro _ _ ⟨b1,b2,rfl,rfl⟩;refine⟨_,_,rfl,rfl,?_⟩)|(refine Kq rfl rfl rfl rfl rfl rfl rfl rfl (g1 _ _) (fun h=>by cases h) (fun _=> .inl ⟨_,List.Perm.refl _⟩) ?_;rintro _ _ ⟨D6,rfl,rfl⟩;refine .inr ⟨_,_,rfl,rfl,?_⟩;repeat (refine C9 ?_))|apply B5)
    exact DB ⟨_,rfl,rfl⟩
  | ok r1=>
    obtain⟨n1,y⟩:=r1;rw [h1] at g1
    obtain⟨hw, -,hy⟩:=Hb h1;have Yv:0≤n1/\n1≤most:=by unfold wi at hw;simpa using hw
    obtain⟨n,rfl⟩:=Int.eq_ofNat_of_zero_le Yv.1;have g2:=fun Dq DZ=>Rz n Dq E9 DZ s y cl hs hy Ab
    dsimp only;rw [Int.toNat_natCast];cases h2:rep (num s 1 fun z=>wi z 0 cl) n y with
    | error q=>
      rw [h2] at g2
      refine Ch Tryz.func148 rfl (Nat.le_of_ble_eq_true rfl) fun F=> ?_
      repeat' (first|apply B4|refine B3 0 BY Au ?_|refine CF (fun β=> ?_)|refine B0 ?_|apply B5)
      refine Cu [.q [0,1],.f [4],.h false 2,.h true 3,.h true 5,.q [6]] [] Ac Ac Ac Ac ?_
      repeat' (first|refine B3 0 BY Bb ?_|refine B3 3 BY AD ?_|refine CQ rfl ?_|refine FD rfl ?_|(refine D0 rfl rfl rfl rfl rfl rfl rfl rfl (CZ 0 most) (by rintro _ _ ⟨b1,b2,rfl,rfl⟩;exact⟨_,rfl⟩) ?_;rintro _ _ ⟨b1,b2,rfl,rfl⟩;refine⟨_,_,rfl,rfl,?_⟩)|(refine Fx rfl rfl rfl rfl rfl rfl rfl rfl (g1 _ _) ?_;rintro _ _ ⟨rfl,rfl⟩;refine⟨_,_,rfl,rfl,?_⟩)|(refine Kq rfl rfl rfl rfl rfl rfl rfl rfl (g2 _ _) (fun h=>by cases h) (fun _=> .inl ⟨_,List.Perm.refl _⟩) ?_;rintro _ _ ⟨D6,rfl,rfl⟩;refine .inr ⟨_,_,rfl,rfl,?_⟩;repeat (refine C9 ?_))|apply B5)
      exact DB ⟨_,rfl,rfl⟩
    | ok r2=>
      obtain⟨l,x⟩:=r2;rw [h2] at g2
      refine Ch Tryz.func148 rfl (Nat.le_of_ble_eq_true rfl) fun F=> ?_
      repeat' (first|apply B4|refine B3 0 BY Au ?_|refine CF (fun β=> ?_)|refine B0 ?_|apply B5)
      refine Cu [.q [0,1],.f [4],.h false 2,.h true 3,.h true 5,.q [6]] [] Ac Ac Ac Ac ?_
      repeat' (first|refine B3 0 BY A1 ?_|refine B3 3 BY AD ?_|refine Cz ?_|refine CQ rfl ?_|refine FD rfl ?_|(refine D0 rfl rfl rfl rfl rfl rfl rfl rfl (CZ 0 most) (by rintro _ _ ⟨b1,b2,rfl,rfl⟩;exact⟨_,rfl⟩) ?_;rintro _ _ ⟨b1,b2,rfl,rfl⟩;refine⟨_,_,rfl,rfl,?_⟩)|(refine Fx rfl rfl rfl rfl rfl rfl rfl rfl (g1 _ _) ?_;rintro _ _ ⟨rfl,rfl⟩;refine⟨_,_,rfl,rfl,?_⟩)|(refine Fx rfl rfl rfl rfl rfl rfl rfl rfl (g2 _ _) ?_;rintro _ _ ⟨h,base,cap,rfl,os,hx,hl,rfl⟩;refine⟨_,_,rfl,rfl,?_⟩)|apply B5|refine B8 ?_|apply Cb)
      subst hl;exact G5 [h,GL E9 s x] (Ce (B7 rfl)) ⟨h,base,cap,rfl,os,hx,by omega,rfl⟩
end Go.Proofs.YtcnmnmjmpocepaaGreatDoor.Cd
end
section
namespace Go.Proofs.YtcnmnmjmpocepaaGreatDoor.Cd
open Go.SL
def FW (s :List UInt8)(most cl:Int):Rd Me:=fun a=>match ER s most cl a with
  | .error e=> .error e
  | .ok (ps,a1)=>match num s 1 (fun z=>wi z ps.length 16) a1 with
    | .error e=> .error e
    | .ok (lo,a2)=>match num s 1 (fun z=>wi z 0 32) a2 with
      | .error e=> .error e
      | .ok (st,a3)=>match num s 2 (fun z=>wi z 1 256) a3 with
        | .error e=> .error e
        | .ok (n,a4)=>match rep (Lz s) n.toNat a4 with
          | .error e=> .error e
          | .ok (code,a5)=> .ok (⟨ps,lo,st,code⟩,a5)
theorem Z8{s:List UInt8}{a b:Nat}{y:Ins}(h:Lz s a= .ok (y,b)):b≤s.length:=by
  unfold Lz at h
  split at h
  · split at h
    · split at h
      · cases h;exact(Hb Ad).2.2
      · cases h
    · cases h
  · cases h
attribute [local irreducible] SL.T C7 Dc C6 Db DS Du
structure SI where
  j:Nat
  a:Nat
  h:B6
  b:Option Addr
  c:Nat
  l:List Ins
theorem RA(n:Nat)(E9:Nat)(s:List UInt8)(a:Nat)(hs:s.length≤9223372036854775807)(ha:a≤s.length)(hn:n≤1000):
    SL.T Tryz.prog 188 [i64 (n:Int),.func (.func 189) #[ptr E9] #[]] [GL E9 s a]
      (RQ (rep (Lz s) n a) fun l b e o=>∃h base cap,e= .returned (.slice base n cap)/\OS h base n cap 24 3 (Cp l)/\b≤s.length/\l.length=n/\o= [h,GL E9 s b]):=by
  refine Ch Tryz.func188 rfl (Nat.le_of_ble_eq_true rfl) fun F=> ?_
  refine DY ?_
  repeat' (first|apply B4|refine B3 0 BY Af ?_|refine B0 ?_|apply B5|refine B8 ?_|refine Cf ?_)
  refine CH (fun t:SI=> [(1,.func (.func 189) #[ptr E9] #[]),(4,.slice t.b t.j t.c),(5,i64 (n:Int)),(6,i64 (t.j:Int))])
    (fun t=> [t.h,GL E9 s t.a])
    (fun t=>t.j≤n/\t.a≤s.length/\rep (Lz s) t.j a= .ok (t.l,t.a)/\OS t.h t.b t.j t.c 24 3 (Cp t.l))
    (fun t=>n - t.j) ⟨0,a,emp,none,0,[]⟩ (by repeat first|exact Sub.nil _|refine Sub.cons rfl ?_) ⟨Nat.zero_le _,ha,rfl,OS.nil⟩ ?_
  rintro⟨j,x,h,b,c,l⟩ ⟨hj,hx,hr,os⟩;dsimp only at hj hx hr os ⊢
  by_cases Gs:j<n
  · have hk:=Uq E9 s x hs hx;cases h1:Lz s x with
    | error q=>
      rw [h1] at hk
      repeat' (first|apply B4|refine B3 0 BY Am ?_|refine Cs 2 BY Aj Ab ?_|(refine gk 4 rfl ?_;(refine Ev rfl rfl rfl rfl rfl rfl rfl rfl (hk) ?_;rintro _ _ ⟨D6,rfl,rfl⟩;refine .inr ⟨_,rfl,?_⟩;repeat (first|refine C9 ?_|refine JY ?_)))|refine B0 ?_|apply B5|refine Cl ?_|refine Cf ?_|apply Cc)
      rw [Qx Gs hr h1];exact DB ⟨_,rfl,rfl⟩
    | ok r=>
      obtain⟨z,y⟩:=r;rw [h1] at hk
      repeat' (first|apply B4|refine B3 0 BY Af ?_|refine B3 1 BY Ap ?_|refine Cs 2 BY Aj Ab ?_|(refine gk 4 rfl ?_;(refine B9 rfl rfl rfl rfl rfl rfl rfl rfl (hk) ?_;rintro _ _ ⟨rfl,rfl⟩;refine⟨_,_,rfl,rfl,?_⟩))|refine gk 4 rfl (Ff rfl rfl rfl rfl rfl rfl rfl rfl rfl Ad As Ae As Ab Ab (fun h' b' c' HT TE=> ?_))|refine Cm (fun b=> ?_)|refine B0 ?_|apply B5|refine B8 ?_|refine Cl ?_|refine Cf ?_|apply Cc)
      refine⟨rfl,⟨j+1,y,h',b',c',l++ [z]⟩,CA (by repeat first|exact Sub.nil _|refine Sub.cons rfl ?_),⟨by dsimp only;omega,Z8 h1,by simp only [rep,hr,h1],?_⟩,by dsimp only;omega⟩;dsimp only;rw [F4];simpa [Cp] using HT
  · obtain rfl:j=n:=by omega
    repeat' (first|apply B4|refine B3 0 BY Af ?_|refine CE 2 BY Aj Ab ?_|refine B0 ?_|apply B5|refine B8 ?_|refine Cg ?_|apply Cb|refine CC ?_)
    rw [hr];exact G5 [h,GL E9 s x] (Ce (B7 rfl)) ⟨h,b,c,rfl,os,hx,Nc hr,rfl⟩
end Go.Proofs.YtcnmnmjmpocepaaGreatDoor.Cd
end
