
import Derived.Test.YtcnmnmjmpocepaaGreatDoorV00
import Derived.Test.YtcnmnmjmpocepaaGreatDoorV09
import Derived.Test.YtcnmnmjmpocepaaGreatDoorV35
import Derived.Test.YtcnmnmjmpocepaaGreatDoorV12
set_option linter.unusedVariables false
set_option linter.unusedSimpArgs false
set_option linter.unusedSectionVars false
set_option maxRecDepth 100000
set_option maxHeartbeats 16000000
section
namespace Go.Proofs.YtcnmnmjmpocepaaGreatDoor.Cd
open Go.SL
attribute [local irreducible] SL.T Dw DG DE DI Et D0
abbrev eC(G:CA):Prop:=Sl G (some ⟨0,0,none⟩) [.iface 254 (.agg #[.pointer (some ⟨1,40,none⟩)])]
abbrev Kv(β:Nat)(at_:Int):CA:=CV β (.cells ⟨[i64 7,i64 0,i64 at_]⟩ 43 (0,0))
abbrev RK(β:Nat):Value:= .iface 180 (.agg ⟨[ptr β]⟩)
theorem WK{G:CA} [sg:eC G](β:Nat)(at_:Int):Dw Tryz.prog 31 [RK β] [Kv β at_,G] (.agg ⟨[i64 7,i64 0,i64 at_]⟩):=by
  have ha:=fun b old=>kh (G:=G) ⟨β,0,none⟩ b old
  revert ha
  generalize hβ:β=RS
  intro ha;refine CL Tryz.func31 rfl (Nat.le_of_ble_eq_true rfl) fun F=> ?_
  repeat' (first|refine CW rfl rfl rfl (Fb rfl rfl rfl) ?_|refine CW rfl rfl rfl (Mt rfl rfl) ?_|apply Cv|refine Ct 0 Cr A4 ?_|refine Ct 3 Cr A2 ?_|(refine gk 4 rfl ?_;(refine CK rfl rfl rfl rfl rfl rfl rfl rfl (ha _ (.pointer none)) ?_;rintro _ _ ⟨rfl,rfl⟩;refine⟨_,_,rfl,rfl,?_⟩))|refine Ct 5 Cr Ak ?_|refine CT (fun β=> ?_)|refine CN ?_|refine Cu ?_|apply Cw|refine Cy ?_|refine CH ?_|apply Cz|refine CQ ?_)
  exact CS (CD (CR rfl rfl rfl rfl)) rfl
def DK:List UInt8->Nat
  | []=>0
  |b::l=>b.toNat+256*DK l
def rd(s:List UInt8)(at_ many:Nat):Option Int:=if at_+many≤s.length then some (IntKind.i64.wrap (DK ((s.drop at_).take many))) else none
def Je(s:List UInt8)(at_ many:Nat)(p:Int->Bool):Except Nat Int:=
  match rd s at_ many with
  |some n=>if p n then .ok n else .error at_
  |none=> .error at_
def ky(p:Nat)(e:Ending)(o:List CA):Prop:=∃β,e= .panicked [{v:=RK β,recovered:=false}]/\o= [Kv β (p:Int)]
theorem Eb{P:Program}{fn:Func}{n:Nat}{env:Env}{own:List CA}{k:CA}{ch:List PanicEntry}{Q:Ending->List CA->Prop}(h:Q (.panicked ch) [k]):Mf P fn n Q (.panic ch) env (k::own) []:=
  ⟨k::own,[k],inferInstance,fun _ _ s=>s.sub Am,h⟩
abbrev HZ(β:Nat)(s:List UInt8)(at_:Nat):CA:=CV β (.cells ⟨[str s,i64 (at_:Int)]⟩ 184 (0,0))
theorem Qb(β:Nat)(s:List UInt8)(a:Nat):Dw Tryz.prog 143 [ptr β,.bool true] [HZ β s a] (.tuple #[]):=by
  refine CL Tryz.func143 rfl (Nat.le_of_ble_eq_true rfl) fun F=> ?_
  repeat' (first|apply Cv|refine Ct 0 Cr Br ?_|refine Cu ?_|apply Cw|refine Cy ?_|refine CF ?_|apply CB)
  exact QG [HZ β s a] Dt (fun F w s=>s) ⟨rfl,rfl⟩
theorem Pp(β:Nat)(s:List UInt8)(a:Nat):SL.T Tryz.prog 143 [ptr β,.bool false] [HZ β s a] (ky a):=by
  refine CM Tryz.func143 rfl (Nat.le_of_ble_eq_true rfl) fun F=> ?_
  repeat' (first|refine CW rfl rfl rfl (Fb rfl rfl rfl) ?_|refine aX rfl rfl rfl ?_|apply Cv|refine Ct 0 Cr BO ?_|refine Ct 3 Cr Af ?_|refine Ct 5 Cr AX ?_|refine C2 (fun β=> ?_)|refine Cu ?_|apply Cw|refine Cy ?_|refine CH ?_)
  exact Eb ⟨_,rfl,rfl⟩
theorem XK(z:Int):Dw Tryz.prog 201 [i64 z] [] (.bool true):=by
  refine CL Tryz.func201 rfl (Nat.le_of_ble_eq_true rfl) fun F=> ?_
  repeat' (first|apply Cv|refine Ct 0 Cr Au ?_|refine Cu ?_|apply Cw|refine Cy ?_|apply Cz)
  refine CS (CD (Cx rfl)) ?_
  rfl
theorem Dy(a b:Int):SL.T Tryz.prog 145 [i64 a,i64 b] [] fun e o=>∃ET Ei,e= .returned (.func (.func 185) #[] #[ptr ET,ptr Ei])/\o= [CV ET (.cells ⟨[i64 a]⟩ 3 (0,0)),CV Ei (.cells ⟨[i64 b]⟩ 3 (0,0))]:=by
  refine CM Tryz.func145 rfl (Nat.le_of_ble_eq_true rfl) fun F=> ?_
  repeat' (first|apply Cv|refine Ct 0 Cr Bs ?_|refine C2 (fun β=> ?_)|refine Cu ?_|apply Cw|refine Cy ?_|apply Cz)
  exact Gj [_,_] (CD (Cx rfl)) (fun F w s=>s.perm ((List.Perm.swap _ _ _).cons F)) ⟨_,_,rfl,rfl⟩
theorem VG(a b z:Int)(ET Ei:Nat):Dw Tryz.prog 185 [i64 z,ptr ET,ptr Ei] [CV ET (.cells ⟨[i64 a]⟩ 3 (0,0)),CV Ei (.cells ⟨[i64 b]⟩ 3 (0,0))] (.bool (wi z a b)):=by
  have hw:=EW z a b;refine CL Tryz.func185 rfl (Nat.le_of_ble_eq_true rfl) fun F=> ?_
  repeat' (first|apply Cv|refine Ct 0 Cr Ag ?_|refine Ct 3 Cr AN ?_|refine Ct 4 Cr (CE rfl rfl rfl rfl rfl (hw)) ?_|refine Cu ?_|apply Cw|refine Cy ?_|apply Cz)
  refine CS (CD (Cx rfl)) ?_
  rfl
end Go.Proofs.YtcnmnmjmpocepaaGreatDoor.Cd
end
section
namespace Go.Proofs.YtcnmnmjmpocepaaGreatDoor.Cd
open Go.SL
theorem YU{P:Program}{f:FuncId}{args:List Value}{h:CA}{hs:List CA}{Q:Ending->List CA->Prop}(t:SL.T P f args [h] Q):SL.T P f args (h::hs) Q:=by
  intro w X s;have s1:Sat ([h]++(hs++X)) w:=by simpa using s
  refine(t w (hs++X) s1).mono fun e w' ⟨own,s2,hq⟩=>⟨own,?_,hq⟩
  have s3:Sat ((own++X)++hs) w':=s2.perm (by simpa [List.append_assoc] using(List.perm_append_comm (l₁:=hs) (l₂:=X)).append_left own);exact s3.sub (List.sublist_append_left _ _)
theorem YD{s:List UInt8}{a many:Nat}{p:Int->Bool}{n:Int}(h:rd s a many=some n)(hp:p n=true):Je s a many p= .ok n:=by unfold Je;rw [h];simp [hp]
theorem YE{s:List UInt8}{a many:Nat}{p:Int->Bool}{n:Int}(h:rd s a many=some n)(hp:p n=false):Je s a many p= .error a:=by unfold Je;rw [h];simp [hp]
attribute [local irreducible] SL.T Dw DG DE DI Et D0
theorem Kf:∀(l:List UInt8) (b:UInt8),DK (l++ [b])=DK l+256^l.length*b.toNat
  | [],b=>by simp [DK]
  | c::l,b=>by
    simp only [List.cons_append,DK,Kf l b,List.length_cons,Nat.pow_succ];rw [Nat.mul_add,Nat.mul_comm (256^l.length) 256,Nat.mul_assoc,Nat.add_assoc]
theorem J2:∀(l:List UInt8),DK l<256^l.length
  | []=>by simp [DK]
  | c::l=>by
    have h1:=J2 l;have h2:=c.toNat_lt;simp only [DK,List.length_cons,Nat.pow_succ];omega
theorem Yj{n i b:Nat}(hn:n<256^i):n |||(b <<<(8*i))=n+256^i*b:=by
  have e:256^i=2^(8*i):=by rw [Nat.pow_mul]
  rw [e] at hn ⊢
  rw [Nat.or_comm,<-Nat.shiftLeft_add_eq_or_of_lt hn,Nat.shiftLeft_eq,Nat.mul_comm,Nat.add_comm]
theorem LA{i:Nat}(h:i<8):256^i*256≤2^64:=by
  have:256^i*256=2^(8*(i+1)):=by rw [<-Nat.pow_succ,Nat.pow_mul]
  rw [this];exact Nat.pow_le_pow_right Ah Ab
theorem SU(β:Nat)(s:List UInt8)(a many:Nat)(fv:Value)(hs:s.length≤9223372036854775807)(ha:a≤s.length)(hm:many≤8)(h:¬a+many≤s.length):
    SL.T Tryz.prog 144 [ptr β,i64 (many:Int),fv] [HZ β s a] (ky a):=by
  have hn:=Pp β s a;have hlen:(s.length:Int) - (a:Int)<many:=by omega
  refine CM Tryz.func144 rfl (Nat.le_of_ble_eq_true rfl) fun F=> ?_
  repeat' (first|apply Cv|refine Ct 0 Cr Au ?_|refine Cu ?_|apply Cw)
  refine C0 [.q [0,1,2,3,4,5,6,7,8,9,10,11,12],.h true 13] [] Ac Ac Ac Ac ?_
  repeat' (first|refine CW rfl rfl rfl (Ek rfl rfl rfl rfl rfl) ?_|refine Ct 0 Cr Ap ?_|refine Ct 1 Cr AF ?_|refine CY 2 Cr AB Ab ?_|refine Ct 3 Cr Af ?_|refine Ct 5 Cr Ak ?_|refine Dd rfl ?_|(refine Md rfl rfl rfl rfl rfl rfl rfl rfl (hn) (fun h=>by cases h) (fun _=> .inl ⟨_,List.Perm.refl _⟩) ?_;rintro _ _ ⟨Ec,rfl,rfl⟩;refine .inr ⟨_,_,rfl,rfl,?_⟩;repeat (refine DF ?_))|apply Cw)
  exact Eb ⟨_,rfl,rfl⟩
theorem dt(β:Nat)(s:List UInt8)(a many:Nat)(ET Ei:Nat)(x y:Int)(hs:s.length≤9223372036854775807)(ha:a≤s.length)(hm:many≤8):
    SL.T Tryz.prog 144 [ptr β,i64 (many:Int),.func (.func 185) #[] #[ptr ET,ptr Ei]] [HZ β s a,CV ET (.cells ⟨[i64 x]⟩ 3 (0,0)),CV Ei (.cells ⟨[i64 y]⟩ 3 (0,0))] fun e o=>
      (∃n,Je s a many (fun z=>wi z x y)= .ok n/\a+many≤s.length/\e= .returned (i64 n)/\o= [HZ β s (a+many),CV ET (.cells ⟨[i64 x]⟩ 3 (0,0)),CV Ei (.cells ⟨[i64 y]⟩ 3 (0,0))])∨(Je s a many (fun z=>wi z x y)= .error a/\ky a e o):=by
  by_cases h:a+many≤s.length
  · have Kq:rd s a many=some (IntKind.i64.wrap (DK ((s.drop a).take many))):=by unfold rd;rw [if_pos h]
    have hny:=Qb β s a;have XB:=Pp β s a;have hlen:(many:Int)≤(s.length:Int) - (a:Int):=by omega
    have hc:=fun z=>VG x y z ET Ei
    refine CM Tryz.func144 rfl (Nat.le_of_ble_eq_true rfl) fun F=> ?_
    repeat' (first|refine CW rfl rfl rfl (Ek rfl rfl rfl rfl rfl) ?_|apply Cv|refine Ct 0 Cr Ag ?_|refine Ct 1 Cr AF ?_|refine CO 2 Cr AB Ab ?_|refine Ct 3 Cr Af ?_|refine Ct 4 Cr (CE rfl rfl rfl rfl rfl (hny)) ?_|refine Ct 5 Cr Ak ?_|refine Cu ?_|refine De Ac Ac rfl ?_|apply Cw|refine Cy ?_|refine CC ?_)
    refine C4 (fun i:Nat=> [(0,ptr β),(1,i64 (many:Int)),(2,.func (.func 185) #[] #[ptr ET,ptr Ei]),(7,.int .u64 ((DK ((s.drop a).take i):Nat):Int)),(23,i64 (many:Int)),(24,i64 (i:Int))])
      (fun _=> [HZ β s a,CV ET (.cells ⟨[i64 x]⟩ 3 (0,0)),CV Ei (.cells ⟨[i64 y]⟩ 3 (0,0))]) (fun i=>i≤many) (fun i=>many - i) 0 (by repeat first|exact Sub.nil _|refine Sub.cons rfl ?_) (Nat.zero_le _) ?_
    rintro i hi;by_cases LW:i<many
    · obtain⟨b,hb⟩:∃b,s[a+i]?=some b:=⟨_,List.getElem?_eq_getElem Ab⟩;have OU:s[((a:Int)+(i:Int)).toNat]?=some b:=by rw [show((a:Int)+(i:Int)).toNat=a+i by omega];exact hb
      have Lf:=b.toNat_lt;have htk:(s.drop a).take (i+1)=(s.drop a).take i++ [b]:=by rw [List.take_add_one,List.getElem?_drop,hb];rfl
      have htl:((s.drop a).take i).length=i:=by rw [List.length_take,List.length_drop];omega
      have hN:=J2 ((s.drop a).take i);rw [htl] at hN
      have hstep:DK ((s.drop a).take (i+1))=DK ((s.drop a).take i) |||(b.toNat <<<(8*i)):=by rw [htk,Kf,htl,Yj hN]
      generalize DK ((s.drop a).take i)=N at*
      have hp:=LA (show i<8 by omega);have hsh:b.toNat <<<(8*i)<2^64:=by
        rw [Nat.shiftLeft_eq,show 2^(8*i)=256^i by rw [Nat.pow_mul],Nat.mul_comm];exact Nat.lt_of_lt_of_le (Nat.mul_lt_mul_of_pos_left (show b.toNat<256 by omega) (Nat.pow_pos Ah)) hp
      have hN64:N<2^64:=Nat.lt_of_lt_of_le hN (Nat.le_trans (Nat.le_mul_of_pos_right _ Ah) hp);have hmul:Value.int .i64 (IntKind.i64.wrap (8*(i:Int)))=i64 ((8*i:Nat):Int):=by rw [Dz Ab Ab];simp
      have hcvb:Value.int .u64 (IntKind.u64.wrap ((b.toNat:Nat):Int))= .int .u64 ((b.toNat:Nat):Int):=by rw [Hm Ab]
      have hshl:Value.int .u64 (shl .u64 ((b.toNat:Nat):Int) ((8*i:Nat):Int))= .int .u64 ((b.toNat <<<(8*i):Nat):Int):=by rw [To,Nat.mod_eq_of_lt hsh]
      have hor:Value.int .u64 (QT .or .u64 (N:Int) ((b.toNat <<<(8*i):Nat):Int))= .int .u64 ((DK ((s.drop a).take (i+1)):Nat):Int):=by rw [bK hN64 hsh,hstep]
      clear hstep hN hp hsh hN64 htk htl hc hny XB Kq
      repeat' (first|refine CW rfl rfl rfl ((Fu rfl rfl rfl).to hmul) ?_|refine CW rfl rfl rfl ((C8 rfl rfl).to hcvb) ?_|refine CW rfl rfl rfl ((Ng rfl rfl rfl Ab).to hshl) ?_|refine CW rfl rfl rfl ((Ni rfl rfl rfl Ah).to hor) ?_|refine CW rfl rfl rfl (Mu rfl rfl rfl Ab OU) ?_|apply Cv|refine Ct 0 Cr Ag ?_|refine Ct 1 Cr Ao ?_|refine CO 2 Cr Aj Ab ?_|refine Ct 3 Cr Af ?_|refine Ct 5 Cr Ak ?_|refine Cu ?_|refine De Ac Ac rfl ?_|apply Cw|refine Cy ?_|refine CH ?_|refine CC ?_|apply CB)
      exact⟨rfl,i+1,CX (by repeat first|exact Sub.nil _|refine Sub.cons rfl ?_),by omega,by omega⟩
    · obtain rfl:many=i:=by omega
      have hz:IntKind.i64.wrap (IntKind.u64.wrap (DK ((s.drop a).take many)))=IntKind.i64.wrap (DK ((s.drop a).take many)):=by
        rw [Hm];have:=J2 ((s.drop a).take many);refine Nat.lt_of_lt_of_le this ?_;have e:((s.drop a).take many).length≤8:=by rw [List.length_take];omega
        exact Nat.le_trans (Nat.pow_le_pow_right Ah e) Ah
      generalize hn:IntKind.i64.wrap (DK ((s.drop a).take many):Int)=n at*
      have hcv:Value.int .i64 (IntKind.i64.wrap (DK ((s.drop a).take many):Int))=i64 n:=by rw [hn]
      cases hp:(fun z=>wi z x y) n with
      | true=>
        have hcz:=(hc n).to (congrArg Value.bool hp)
        repeat' (first|refine CW rfl rfl rfl ((C8 rfl rfl).to hcv) ?_|apply Cv|refine Ct 0 Cr Ag ?_|refine Ct 1 Cr Ao ?_|refine CY 2 Cr Aj Ab ?_|refine Ct 3 Cr Af ?_|refine Ct 4 Cr (CE rfl rfl rfl rfl rfl (hcz)) ?_|refine Ct 4 Cr (CE rfl rfl rfl rfl rfl (hny)) ?_|refine Ct 5 Cr Ak ?_|refine CN ?_|refine Cu ?_|apply Cw|refine Cy ?_|refine CF ?_|apply Cz|refine C1 ?_)
        refine Gj [HZ β s (a+many),CV ET (.cells ⟨[i64 x]⟩ 3 (0,0)),CV Ei (.cells ⟨[i64 y]⟩ 3 (0,0))] (CD (Cx rfl)) (fun F w q=> ?_) (.inl ⟨n,YD Kq hp,h,rfl,rfl⟩);simp only [HZ,Int.natCast_add];exact q
      | false=>
        have hcz:=(hc n).to (congrArg Value.bool hp)
        repeat' (first|refine CW rfl rfl rfl ((C8 rfl rfl).to hcv) ?_|apply Cv|refine Ct 0 Cr Ap ?_|refine CY 2 Cr Aj Ab ?_|refine Ct 4 Cr (CE rfl rfl rfl rfl rfl (hcz)) ?_|(refine gk 4 rfl ?_;(refine Ft rfl rfl rfl rfl rfl rfl rfl rfl (XB) ?_;rintro _ _ ⟨Ec,rfl,rfl⟩;refine .inr ⟨_,rfl,?_⟩;repeat (refine DF ?_)))|refine Cu ?_|apply Cw|refine CF ?_|refine C1 ?_)
        exact Eb (.inr ⟨YE Kq hp,_,rfl,rfl⟩)
  · have hg:Je s a many (fun z=>wi z x y)= .error a:=by unfold Je rd;rw [if_neg h]
    exact(YU (SU β s a many _ hs ha hm h)).mono fun e o hP=> .inr ⟨hg,hP⟩
theorem du(β:Nat)(s:List UInt8)(a many:Nat)(hs:s.length≤9223372036854775807)(ha:a≤s.length)(hm:many≤8):
    SL.T Tryz.prog 144 [ptr β,i64 (many:Int),.func (.func 201) #[] #[]] [HZ β s a] fun e o=>
      (∃n,Je s a many (fun _=>true)= .ok n/\a+many≤s.length/\e= .returned (i64 n)/\o= [HZ β s (a+many)])∨(Je s a many (fun _=>true)= .error a/\ky a e o):=by
  by_cases h:a+many≤s.length
  · have Kq:rd s a many=some (IntKind.i64.wrap (DK ((s.drop a).take many))):=by unfold rd;rw [if_pos h]
    have hny:=Qb β s a;have XB:=Pp β s a;have hlen:(many:Int)≤(s.length:Int) - (a:Int):=by omega
    have hc:=fun z=>XK z
    refine CM Tryz.func144 rfl (Nat.le_of_ble_eq_true rfl) fun F=> ?_
    repeat' (first|refine CW rfl rfl rfl (Ek rfl rfl rfl rfl rfl) ?_|apply Cv|refine Ct 0 Cr Ag ?_|refine Ct 1 Cr AF ?_|refine CO 2 Cr AB Ab ?_|refine Ct 3 Cr Af ?_|refine Ct 4 Cr (CE rfl rfl rfl rfl rfl (hny)) ?_|refine Ct 5 Cr Ak ?_|refine Cu ?_|refine De Ac Ac rfl ?_|apply Cw|refine Cy ?_|refine CC ?_)
    refine C4 (fun i:Nat=> [(0,ptr β),(1,i64 (many:Int)),(2,.func (.func 201) #[] #[]),(7,.int .u64 ((DK ((s.drop a).take i):Nat):Int)),(23,i64 (many:Int)),(24,i64 (i:Int))])
      (fun _=> [HZ β s a]) (fun i=>i≤many) (fun i=>many - i) 0 (by repeat first|exact Sub.nil _|refine Sub.cons rfl ?_) (Nat.zero_le _) ?_
    rintro i hi;by_cases LW:i<many
    · obtain⟨b,hb⟩:∃b,s[a+i]?=some b:=⟨_,List.getElem?_eq_getElem Ab⟩;have OU:s[((a:Int)+(i:Int)).toNat]?=some b:=by rw [show((a:Int)+(i:Int)).toNat=a+i by omega];exact hb
      have Lf:=b.toNat_lt;have htk:(s.drop a).take (i+1)=(s.drop a).take i++ [b]:=by rw [List.take_add_one,List.getElem?_drop,hb];rfl
      have htl:((s.drop a).take i).length=i:=by rw [List.length_take,List.length_drop];omega
      have hN:=J2 ((s.drop a).take i);rw [htl] at hN
      have hstep:DK ((s.drop a).take (i+1))=DK ((s.drop a).take i) |||(b.toNat <<<(8*i)):=by rw [htk,Kf,htl,Yj hN]
      generalize DK ((s.drop a).take i)=N at*
      have hp:=LA (show i<8 by omega);have hsh:b.toNat <<<(8*i)<2^64:=by
        rw [Nat.shiftLeft_eq,show 2^(8*i)=256^i by rw [Nat.pow_mul],Nat.mul_comm];exact Nat.lt_of_lt_of_le (Nat.mul_lt_mul_of_pos_left (show b.toNat<256 by omega) (Nat.pow_pos Ah)) hp
      have hN64:N<2^64:=Nat.lt_of_lt_of_le hN (Nat.le_trans (Nat.le_mul_of_pos_right _ Ah) hp);have hmul:Value.int .i64 (IntKind.i64.wrap (8*(i:Int)))=i64 ((8*i:Nat):Int):=by rw [Dz Ab Ab];simp
      have hcvb:Value.int .u64 (IntKind.u64.wrap ((b.toNat:Nat):Int))= .int .u64 ((b.toNat:Nat):Int):=by rw [Hm Ab]
      have hshl:Value.int .u64 (shl .u64 ((b.toNat:Nat):Int) ((8*i:Nat):Int))= .int .u64 ((b.toNat <<<(8*i):Nat):Int):=by rw [To,Nat.mod_eq_of_lt hsh]
      have hor:Value.int .u64 (QT .or .u64 (N:Int) ((b.toNat <<<(8*i):Nat):Int))= .int .u64 ((DK ((s.drop a).take (i+1)):Nat):Int):=by rw [bK hN64 hsh,hstep]
      clear hstep hN hp hsh hN64 htk htl hc hny XB Kq
      repeat' (first|refine CW rfl rfl rfl ((Fu rfl rfl rfl).to hmul) ?_|refine CW rfl rfl rfl ((C8 rfl rfl).to hcvb) ?_|refine CW rfl rfl rfl ((Ng rfl rfl rfl Ab).to hshl) ?_|refine CW rfl rfl rfl ((Ni rfl rfl rfl Ah).to hor) ?_|refine CW rfl rfl rfl (Mu rfl rfl rfl Ab OU) ?_|apply Cv|refine Ct 0 Cr Ag ?_|refine Ct 1 Cr Ao ?_|refine CO 2 Cr Aj Ab ?_|refine Ct 3 Cr Af ?_|refine Ct 5 Cr Ak ?_|refine Cu ?_|refine De Ac Ac rfl ?_|apply Cw|refine Cy ?_|refine CH ?_|refine CC ?_|apply CB)
      exact⟨rfl,i+1,CX (by repeat first|exact Sub.nil _|refine Sub.cons rfl ?_),by omega,by omega⟩
    · obtain rfl:many=i:=by omega
      have hz:IntKind.i64.wrap (IntKind.u64.wrap (DK ((s.drop a).take many)))=IntKind.i64.wrap (DK ((s.drop a).take many)):=by
        rw [Hm];have:=J2 ((s.drop a).take many);refine Nat.lt_of_lt_of_le this ?_;have e:((s.drop a).take many).length≤8:=by rw [List.length_take];omega
        exact Nat.le_trans (Nat.pow_le_pow_right Ah e) Ah
      generalize hn:IntKind.i64.wrap (DK ((s.drop a).take many):Int)=n at*
      have hcv:Value.int .i64 (IntKind.i64.wrap (DK ((s.drop a).take many):Int))=i64 n:=by rw [hn]
      cases hp:(fun _=>true) n with
      | true=>
        have hcz:=(hc n).to (congrArg Value.bool hp)
        repeat' (first|refine CW rfl rfl rfl ((C8 rfl rfl).to hcv) ?_|apply Cv|refine Ct 0 Cr Ag ?_|refine Ct 1 Cr Ao ?_|refine CY 2 Cr Aj Ab ?_|refine Ct 3 Cr Af ?_|refine Ct 4 Cr (CE rfl rfl rfl rfl rfl (hcz)) ?_|refine Ct 4 Cr (CE rfl rfl rfl rfl rfl (hny)) ?_|refine Ct 5 Cr Ak ?_|refine CN ?_|refine Cu ?_|apply Cw|refine Cy ?_|refine CF ?_|apply Cz|refine C1 ?_)
        refine Gj [HZ β s (a+many)] (CD (Cx rfl)) (fun F w q=> ?_) (.inl ⟨n,YD Kq hp,h,rfl,rfl⟩);simp only [HZ,Int.natCast_add];exact q
      | false=>
        have hcz:=(hc n).to (congrArg Value.bool hp)
        repeat' (first|refine CW rfl rfl rfl ((C8 rfl rfl).to hcv) ?_|apply Cv|refine Ct 0 Cr Ap ?_|refine CY 2 Cr Aj Ab ?_|refine Ct 4 Cr (CE rfl rfl rfl rfl rfl (hcz)) ?_|(refine gk 4 rfl ?_;(refine Ft rfl rfl rfl rfl rfl rfl rfl rfl (XB) ?_;rintro _ _ ⟨Ec,rfl,rfl⟩;refine .inr ⟨_,rfl,?_⟩;repeat (refine DF ?_)))|refine Cu ?_|apply Cw|refine CF ?_|refine C1 ?_)
        exact Eb (.inr ⟨YE Kq hp,_,rfl,rfl⟩)
  · have hg:Je s a many (fun _=>true)= .error a:=by unfold Je rd;rw [if_neg h]
    exact(YU (SU β s a many _ hs ha hm h)).mono fun e o hP=> .inr ⟨hg,hP⟩
end Go.Proofs.YtcnmnmjmpocepaaGreatDoor.Cd
end
section
namespace Go.Proofs.YtcnmnmjmpocepaaGreatDoor.Cd
open Go.SL
theorem MX{own hs rest:List CA} [t:Dx own hs rest]:∀(F:CA) w,Sat (F::own) w->Sat (F::hs) w:=
  fun F w s=>(s.perm (t.perm.cons F)).sub (List.Sublist.cons_cons F (List.sublist_append_left _ _))
attribute [local irreducible] SL.T Dw DG DE DI Et D0
abbrev Rd(α:Type):=Nat->Except Nat (α×Nat)
def num(s:List UInt8)(many:Nat)(p:Int->Bool):Rd Int:=fun a=>match Je s a many p with| .ok n=> .ok (n,a+many)| .error e=> .error e
def rep{α:Type}(r:Rd α):Nat->Rd (List α)
  |0=>fun a=> .ok ([],a)
  | k+1=>fun a=>match rep r k a with
    | .ok (l,a1)=>match r a1 with| .ok (x,a2)=> .ok (l++ [x],a2)| .error e=> .error e
    | .error e=> .error e
def E5(s:List UInt8)(most cl:Int):Rd (List Int):=fun a=>match num s 1 (fun z=>wi z 0 most) a with
  | .ok (n,a1)=>rep (num s 1 fun z=>wi z 0 cl) n.toNat a1
  | .error e=> .error e
def J4(s:List UInt8):Rd Ins:=fun a=>match num s 1 (fun _=>true) a with
  | .ok (o,a1)=>match num s 8 (fun _=>true) a1 with
    | .ok (x,a2)=>match num s 8 (fun _=>true) a2 with
      | .ok (y,a3)=> .ok (⟨o,x,y⟩,a3)
      | .error e=> .error e
    | .error e=> .error e
  | .error e=> .error e
theorem gw{s:List UInt8}{a many:Nat}{p:Int->Bool}{n:Int}(h:Je s a many p= .ok n):p n=true/\a+many≤s.length:=by
  unfold Je rd at h
  split at h
  · rename_i m hm
    split at hm
    · split at h
      · cases h;rename_i hp;exact⟨hp,by assumption⟩
      · cases h
    · cases hm
  · cases h
theorem GF{s:List UInt8}{a b many:Nat}{p:Int->Bool}{n:Int}(h:num s many p a= .ok (n,b)):p n=true/\b=a+many/\b≤s.length:=by
  unfold num at h
  split at h
  · cases h
    obtain⟨h1,h2⟩:=gw Ad;exact⟨h1,rfl,h2⟩
  · cases h
def RQ{α:Type}(r:Except Nat (α×Nat))(A:α->Nat->Ending->List CA->Prop)(e:Ending)(o:List CA):Prop:=
  match r with| .ok (x,b)=>A x b e o| .error q=>ky q e o
theorem iT{f:FuncId}{args:List Value}{hs:List CA}{s:List UInt8}{a many:Nat}{p:Int->Bool}{B:Nat->List CA}(h:SL.T Tryz.prog f args hs fun e o=>
      (∃n,Je s a many p= .ok n/\a+many≤s.length/\e= .returned (i64 n)/\o=B (a+many))∨(Je s a many p= .error a/\ky a e o)):
    SL.T Tryz.prog f args hs (RQ (num s many p a) fun n b e o=>e= .returned (i64 n)/\o=B b):=by
  refine T.mono h fun e o h=> ?_
  unfold RQ num;rcases h with ⟨n,h1,h2,h3,h4⟩|⟨h1,h2⟩
  · rw [h1];exact⟨h3,h4⟩
  · rw [h1];exact h2
theorem Hk(β:Nat)(s:List UInt8)(a many:Nat)(ET Ei:Nat)(x y:Int)(hs:s.length≤9223372036854775807)(ha:a≤s.length)(hm:many≤8):
    SL.T Tryz.prog 144 [ptr β,i64 (many:Int),.func (.func 185) #[] #[ptr ET,ptr Ei]] [HZ β s a,CV ET (.cells ⟨[i64 x]⟩ 3 (0,0)),CV Ei (.cells ⟨[i64 y]⟩ 3 (0,0))]
      (RQ (num s many (fun z=>wi z x y) a) fun n b e o=>e= .returned (i64 n)/\o= [HZ β s b,CV ET (.cells ⟨[i64 x]⟩ 3 (0,0)),CV Ei (.cells ⟨[i64 y]⟩ 3 (0,0))]):=
  iT (B:=fun b=> [HZ β s b,CV ET (.cells ⟨[i64 x]⟩ 3 (0,0)),CV Ei (.cells ⟨[i64 y]⟩ 3 (0,0))]) (dt β s a many ET Ei x y hs ha hm)
theorem MF(β:Nat)(s:List UInt8)(a many:Nat)(hs:s.length≤9223372036854775807)(ha:a≤s.length)(hm:many≤8):
    SL.T Tryz.prog 144 [ptr β,i64 (many:Int),.func (.func 201) #[] #[]] [HZ β s a]
      (RQ (num s many (fun _=>true) a) fun n b e o=>e= .returned (i64 n)/\o= [HZ β s b]):=
  iT (B:=fun b=> [HZ β s b]) (du β s a many hs ha hm)
theorem Vp(DA β Ei:Nat)(s:List UInt8)(a:Nat)(cl:Int)(hs:s.length≤9223372036854775807)(ha:a≤s.length):
    SL.T Tryz.prog 187 [ptr DA,ptr Ei] [CV DA (.cells ⟨[ptr β]⟩ 182 (0,0)),CV Ei (.cells ⟨[i64 cl]⟩ 3 (0,0)),HZ β s a]
      (RQ (num s 1 (fun z=>wi z 0 cl) a) fun n b e o=>e= .returned (i64 n)/\o= [CV DA (.cells ⟨[ptr β]⟩ 182 (0,0)),CV Ei (.cells ⟨[i64 cl]⟩ 3 (0,0)),HZ β s b]):=by
  have hg:=fun b1 b2=>Hk β s a 1 b1 b2 0 cl hs ha Ah
  cases hn:num s 1 (fun z=>wi z 0 cl) a with
  | ok r=>
    obtain⟨n,b⟩:=r;rw [hn] at hg
    refine CM Tryz.func187 rfl (Nat.le_of_ble_eq_true rfl) fun F=> ?_
    repeat' (first|apply Cv|refine Ct 0 Cr Au ?_|refine Cu ?_|apply Cw)
    refine C0 [.q [0,1],.h false 2,.h true 3,.q [4]] [] Ac Ac Ac Ac ?_
    repeat' (first|refine Ct 0 Cr Au ?_|refine Ct 3 Cr AN ?_|refine C5 ?_|refine Dd rfl ?_|(refine Ev rfl rfl rfl rfl rfl rfl rfl rfl (Dy 0 cl) (by rintro _ _ ⟨b1,b2,rfl,rfl⟩;exact⟨_,rfl⟩) ?_;rintro _ _ ⟨b1,b2,rfl,rfl⟩;refine⟨_,_,rfl,rfl,?_⟩)|(refine EL rfl rfl rfl rfl rfl rfl rfl rfl (hg _ _) ?_;rintro _ _ ⟨rfl,rfl⟩;refine⟨_,_,rfl,rfl,?_⟩)|apply Cw|refine Cy ?_|apply Cz)
    exact Gj [CV DA (.cells ⟨[ptr β]⟩ 182 (0,0)),CV Ei (.cells ⟨[i64 cl]⟩ 3 (0,0)),HZ β s b] (CD (Cx rfl)) MX ⟨rfl,rfl⟩
  | error q=>
    rw [hn] at hg
    refine CM Tryz.func187 rfl (Nat.le_of_ble_eq_true rfl) fun F=> ?_
    repeat' (first|apply Cv|refine Ct 0 Cr Au ?_|refine Cu ?_|apply Cw)
    refine C0 [.q [0,1],.h false 2,.h true 3,.q [4]] [] Ac Ac Ac Ac ?_
    repeat' (first|refine Ct 3 Cr AN ?_|refine Dd rfl ?_|(refine Ev rfl rfl rfl rfl rfl rfl rfl rfl (Dy 0 cl) (by rintro _ _ ⟨b1,b2,rfl,rfl⟩;exact⟨_,rfl⟩) ?_;rintro _ _ ⟨b1,b2,rfl,rfl⟩;refine⟨_,_,rfl,rfl,?_⟩)|(refine Md rfl rfl rfl rfl rfl rfl rfl rfl (hg _ _) (fun h=>by cases h) (fun _=> .inl ⟨_,List.Perm.refl _⟩) ?_;rintro _ _ ⟨Ec,rfl,rfl⟩;refine .inr ⟨_,_,rfl,rfl,?_⟩;repeat (refine DF ?_))|apply Cw)
    exact Eb ⟨_,rfl,rfl⟩
end Go.Proofs.YtcnmnmjmpocepaaGreatDoor.Cd
end
section
namespace Go.Proofs.YtcnmnmjmpocepaaGreatDoor.Cd
open Go.SL
theorem Tv{α:Type}{r:Rd α}{a b q:Nat}{l:List α}:∀ {j n:Nat},j<n->rep r j a= .ok (l,b)->r b= .error q->rep r n a= .error q:=by
  intro j n;induction n with
  |zero=>intro h;omega
  | succ n ih=>
    intro h h1 h2;by_cases e:j=n
    · subst e;simp only [rep,h1,h2]
    · simp only [rep,ih Ab h1 h2]
theorem Pk{α:Type}{r:Rd α}{a b:Nat}:∀ {n:Nat} {l:List α},rep r n a= .ok (l,b)->l.length=n:=by
  intro n;induction n generalizing b with
  |zero=>intro l h;simp only [rep] at h;cases h;rfl
  | succ n ih=>
    intro l h;simp only [rep] at h
    split at h
    · split at h
      · cases h
        rename_i h1 _ _ _
        simp [ih h1]
      · cases h
    · cases h
attribute [local irreducible] SL.T Dw DG DE DI Et D0
theorem Xu(E3:Nat)(s:List UInt8)(a:Nat)(hs:s.length≤9223372036854775807)(ha:a≤s.length):
    SL.T Tryz.prog 189 [ptr E3] [HZ E3 s a] (RQ (J4 s a) fun y b e o=>e= .returned (.agg ⟨[i64 y.op,i64 y.a,i64 y.b]⟩)/\o= [HZ E3 s b]):=by
  have g1:=MF E3 s a 1 hs ha Ah;unfold J4;cases h1:num s 1 (fun _=>true) a with
  | error q=>
    rw [h1] at g1
    refine CM Tryz.func189 rfl (Nat.le_of_ble_eq_true rfl) fun F=> ?_
    repeat' (first|apply Cv|refine Ct 0 Cr Ap ?_|(refine gk 4 rfl ?_;(refine Ft rfl rfl rfl rfl rfl rfl rfl rfl (g1) ?_;rintro _ _ ⟨Ec,rfl,rfl⟩;refine .inr ⟨_,rfl,?_⟩;repeat (refine DF ?_)))|refine CT (fun β=> ?_)|refine Cu ?_|apply Cw)
    exact Eb ⟨_,rfl,rfl⟩
  | ok r1=>
    obtain⟨n1,b1⟩:=r1;rw [h1] at g1
    have g2:=MF E3 s b1 8 hs (GF h1).2.2 Ah;dsimp only;cases h2:num s 8 (fun _=>true) b1 with
    | error q=>
      rw [h2] at g2
      refine CM Tryz.func189 rfl (Nat.le_of_ble_eq_true rfl) fun F=> ?_
      repeat' (first|apply Cv|refine Ct 0 Cr Ag ?_|(refine gk 4 rfl ?_;(refine CK rfl rfl rfl rfl rfl rfl rfl rfl (g1) ?_;rintro _ _ ⟨rfl,rfl⟩;refine⟨_,_,rfl,rfl,?_⟩))|(refine gk 4 rfl ?_;(refine Ft rfl rfl rfl rfl rfl rfl rfl rfl (g2) ?_;rintro _ _ ⟨Ec,rfl,rfl⟩;refine .inr ⟨_,rfl,?_⟩;repeat (refine DF ?_)))|refine CT (fun β=> ?_)|refine Cu ?_|apply Cw)
      exact Eb ⟨_,rfl,rfl⟩
    | ok r2=>
      obtain⟨n2,b2⟩:=r2;rw [h2] at g2
      have g3:=MF E3 s b2 8 hs (GF h2).2.2 Ah;dsimp only;cases h3:num s 8 (fun _=>true) b2 with
      | error q=>
        rw [h3] at g3
        refine CM Tryz.func189 rfl (Nat.le_of_ble_eq_true rfl) fun F=> ?_
        repeat' (first|apply Cv|refine Ct 0 Cr Ag ?_|(refine gk 4 rfl ?_;(refine CK rfl rfl rfl rfl rfl rfl rfl rfl (g1) ?_;rintro _ _ ⟨rfl,rfl⟩;refine⟨_,_,rfl,rfl,?_⟩))|(refine gk 4 rfl ?_;(refine CK rfl rfl rfl rfl rfl rfl rfl rfl (g2) ?_;rintro _ _ ⟨rfl,rfl⟩;refine⟨_,_,rfl,rfl,?_⟩))|(refine gk 4 rfl ?_;(refine Ft rfl rfl rfl rfl rfl rfl rfl rfl (g3) ?_;rintro _ _ ⟨Ec,rfl,rfl⟩;refine .inr ⟨_,rfl,?_⟩;repeat (refine DF ?_)))|refine CT (fun β=> ?_)|refine Cu ?_|apply Cw)
        exact Eb ⟨_,rfl,rfl⟩
      | ok r3=>
        obtain⟨n3,b3⟩:=r3;rw [h3] at g3
        dsimp only;refine CM Tryz.func189 rfl (Nat.le_of_ble_eq_true rfl) fun F=> ?_
        repeat' (first|apply Cv|refine Ct 0 Cr Ag ?_|(refine gk 4 rfl ?_;(refine CK rfl rfl rfl rfl rfl rfl rfl rfl (g1) ?_;rintro _ _ ⟨rfl,rfl⟩;refine⟨_,_,rfl,rfl,?_⟩))|(refine gk 4 rfl ?_;(refine CK rfl rfl rfl rfl rfl rfl rfl rfl (g2) ?_;rintro _ _ ⟨rfl,rfl⟩;refine⟨_,_,rfl,rfl,?_⟩))|(refine gk 4 rfl ?_;(refine CK rfl rfl rfl rfl rfl rfl rfl rfl (g3) ?_;rintro _ _ ⟨rfl,rfl⟩;refine⟨_,_,rfl,rfl,?_⟩))|refine Ct 5 Cr Aq ?_|refine CT (fun β=> ?_)|refine CN ?_|refine Cu ?_|apply Cw|refine Cy ?_|apply Cz)
        exact Gj [HZ E3 s b3] (CD (CR rfl rfl rfl rfl)) MX ⟨rfl,rfl⟩
structure SR where
  j:Nat
  a:Nat
  h:CA
  b:Option Addr
  c:Nat
  l:List Int
theorem UC(n:Nat)(DA β Ei:Nat)(s:List UInt8)(a:Nat)(cl:Int)(hs:s.length≤9223372036854775807)(ha:a≤s.length)(hn:n≤1000):
    SL.T Tryz.prog 186 [i64 (n:Int),.func (.func 187) #[] #[ptr DA,ptr Ei]] [CV DA (.cells ⟨[ptr β]⟩ 182 (0,0)),CV Ei (.cells ⟨[i64 cl]⟩ 3 (0,0)),HZ β s a]
      (RQ (rep (num s 1 fun z=>wi z 0 cl) n a) fun l b e o=>∃h base cap,e= .returned (.slice base n cap)/\OS h base n cap 79 1 (l.map i64)/\b≤s.length/\l.length=n/\o= [h,CV DA (.cells ⟨[ptr β]⟩ 182 (0,0)),CV Ei (.cells ⟨[i64 cl]⟩ 3 (0,0)),HZ β s b]):=by
  refine CM Tryz.func186 rfl (Nat.le_of_ble_eq_true rfl) fun F=> ?_
  refine DH ?_
  repeat' (first|apply Cv|refine Ct 0 Cr Ag ?_|refine Cu ?_|apply Cw|refine Cy ?_|refine CC ?_)
  refine C4 (fun t:SR=> [(1,.func (.func 187) #[] #[ptr DA,ptr Ei]),(4,.slice t.b t.j t.c),(5,i64 (n:Int)),(6,i64 (t.j:Int))])
    (fun t=> [t.h,CV DA (.cells ⟨[ptr β]⟩ 182 (0,0)),CV Ei (.cells ⟨[i64 cl]⟩ 3 (0,0)),HZ β s t.a])
    (fun t=>t.j≤n/\t.a≤s.length/\rep (num s 1 fun z=>wi z 0 cl) t.j a= .ok (t.l,t.a)/\OS t.h t.b t.j t.c 79 1 (t.l.map i64))
    (fun t=>n - t.j) ⟨0,a,emp,none,0,[]⟩ (by repeat first|exact Sub.nil _|refine Sub.cons rfl ?_) ⟨Nat.zero_le _,ha,rfl,OS.nil⟩ ?_
  rintro⟨j,x,h,b,c,l⟩ ⟨hj,hx,hr,os⟩;dsimp only at hj hx hr os ⊢
  by_cases FF:j<n
  · have hk:=Vp DA β Ei s x cl hs hx;cases h1:num s 1 (fun z=>wi z 0 cl) x with
    | error q=>
      rw [h1] at hk
      repeat' (first|apply Cv|refine Ct 0 Cr Ap ?_|refine CO 2 Cr Aj Ab ?_|(refine gk 4 rfl ?_;(refine Ft rfl rfl rfl rfl rfl rfl rfl rfl (hk) ?_;rintro _ _ ⟨Ec,rfl,rfl⟩;refine .inr ⟨_,rfl,?_⟩;repeat (first|refine DF ?_|refine LJ ?_)))|refine Cu ?_|apply Cw|refine CH ?_|refine CC ?_|apply CB)
      rw [Tv FF hr h1];exact Eb ⟨_,rfl,rfl⟩
    | ok r=>
      obtain⟨z,y⟩:=r;rw [h1] at hk
      repeat' (first|apply Cv|refine Ct 0 Cr Ag ?_|refine Ct 1 Cr Ao ?_|refine CO 2 Cr Aj Ab ?_|(refine gk 4 rfl ?_;(refine CK rfl rfl rfl rfl rfl rfl rfl rfl (hk) ?_;rintro _ _ ⟨rfl,rfl⟩;refine⟨_,_,rfl,rfl,?_⟩))|refine gk 4 rfl (EH rfl rfl rfl rfl rfl rfl rfl rfl rfl Ad Av Ah Av Ab Ab (fun h' b' c' HS OU=> ?_))|refine CP (fun b=> ?_)|refine Cu ?_|apply Cw|refine Cy ?_|refine CH ?_|refine CC ?_|apply CB)
      refine⟨rfl,⟨j+1,y,h',b',c',l++ [z]⟩,CX (by repeat first|exact Sub.nil _|refine Sub.cons rfl ?_),⟨by dsimp only;omega,(GF h1).2.2,by simp only [rep,hr,h1],?_⟩,by dsimp only;omega⟩;dsimp only;simpa using HS
  · obtain rfl:j=n:=by omega
    repeat' (first|apply Cv|refine Ct 0 Cr Ag ?_|refine CY 2 Cr Aj Ab ?_|refine Cu ?_|apply Cw|refine Cy ?_|refine CF ?_|apply Cz|refine C1 ?_)
    rw [hr];exact Gj [h,CV DA (.cells ⟨[ptr β]⟩ 182 (0,0)),CV Ei (.cells ⟨[i64 cl]⟩ 3 (0,0)),HZ β s x] (CD (Cx rfl)) MX ⟨h,b,c,rfl,os,hx,Pk hr,rfl⟩
end Go.Proofs.YtcnmnmjmpocepaaGreatDoor.Cd
end
section
namespace Go.Proofs.YtcnmnmjmpocepaaGreatDoor.Cd
open Go.SL
theorem EK{P:Program}{n:Nat}{fn:Func}{env:Env}{own own1:List CA}{ds:List Deferred}{v:Value}{Q:Ending->List CA->Prop}(hs:List CA){rest:List CA} [m:Marks ds own own1] [t:Dx own1 hs rest](hr:IK P fn.results.toList own1 env n v)
    (hq:Q (.returned v) hs):Mf P fn n Q .ret env own ds:=⟨v,own1,hs,m,hr,MX,hq⟩
attribute [local irreducible] SL.T Dw DG DE DI Et D0
theorem Np(E3:Nat)(s:List UInt8)(a:Nat)(most cl:Int)(hs:s.length≤9223372036854775807)(ha:a≤s.length)(hm:most≤1000):
    SL.T Tryz.prog 148 [ptr E3,i64 most,i64 cl] [HZ E3 s a]
      (RQ (E5 s most cl a) fun l b e o=>∃h base cap,e= .returned (.slice base l.length cap)/\OS h base l.length cap 79 1 (l.map i64)/\b≤s.length/\l.length≤1000/\o= [h,HZ E3 s b]):=by
  have g1:=fun b1 b2=>Hk E3 s a 1 b1 b2 0 most hs ha Ah
  unfold E5;cases h1:num s 1 (fun z=>wi z 0 most) a with
  | error q=>
    rw [h1] at g1
    refine CM Tryz.func148 rfl (Nat.le_of_ble_eq_true rfl) fun F=> ?_
    repeat' (first|apply Cv|refine Ct 0 Cr Au ?_|refine C2 (fun β=> ?_)|refine Cu ?_|apply Cw)
    refine C0 [.q [0,1],.f [4],.h false 2,.h true 3,.h true 5,.q [6]] [] Ac Ac Ac Ac ?_
    repeat' (first|refine Ct 0 Cr Bt ?_|refine Ct 3 Cr AN ?_|refine Dd rfl ?_|refine Fq rfl ?_|(refine Ev rfl rfl rfl rfl rfl rfl rfl rfl (Dy 0 most) (by rintro _ _ ⟨b1,b2,rfl,rfl⟩;exact⟨_,rfl⟩) ?_;rintro _ _ ⟨b1,b2,rfl,rfl⟩;refine⟨_,_,rfl,rfl,?_⟩)|(refine Md rfl rfl rfl rfl rfl rfl rfl rfl (g1 _ _) (fun h=>by cases h) (fun _=> .inl ⟨_,List.Perm.refl _⟩) ?_;rintro _ _ ⟨Ec,rfl,rfl⟩;refine .inr ⟨_,_,rfl,rfl,?_⟩;repeat (refine DF ?_))|apply Cw)
    exact Eb ⟨_,rfl,rfl⟩
  | ok r1=>
    obtain⟨n1,y⟩:=r1;rw [h1] at g1
    obtain⟨hw, -,hy⟩:=GF h1;have Yx:0≤n1/\n1≤most:=by unfold wi at hw;simpa using hw
    obtain⟨n,rfl⟩:=Int.eq_ofNat_of_zero_le Yx.1;have g2:=fun DA Ei=>UC n DA E3 Ei s y cl hs hy Ab
    dsimp only;rw [Int.toNat_natCast];cases h2:rep (num s 1 fun z=>wi z 0 cl) n y with
    | error q=>
      rw [h2] at g2
      refine CM Tryz.func148 rfl (Nat.le_of_ble_eq_true rfl) fun F=> ?_
      repeat' (first|apply Cv|refine Ct 0 Cr Au ?_|refine C2 (fun β=> ?_)|refine Cu ?_|apply Cw)
      refine C0 [.q [0,1],.f [4],.h false 2,.h true 3,.h true 5,.q [6]] [] Ac Ac Ac Ac ?_
      repeat' (first|refine Ct 0 Cr Bt ?_|refine Ct 3 Cr AN ?_|refine Dd rfl ?_|refine Fq rfl ?_|(refine Ev rfl rfl rfl rfl rfl rfl rfl rfl (Dy 0 most) (by rintro _ _ ⟨b1,b2,rfl,rfl⟩;exact⟨_,rfl⟩) ?_;rintro _ _ ⟨b1,b2,rfl,rfl⟩;refine⟨_,_,rfl,rfl,?_⟩)|(refine EL rfl rfl rfl rfl rfl rfl rfl rfl (g1 _ _) ?_;rintro _ _ ⟨rfl,rfl⟩;refine⟨_,_,rfl,rfl,?_⟩)|(refine Md rfl rfl rfl rfl rfl rfl rfl rfl (g2 _ _) (fun h=>by cases h) (fun _=> .inl ⟨_,List.Perm.refl _⟩) ?_;rintro _ _ ⟨Ec,rfl,rfl⟩;refine .inr ⟨_,_,rfl,rfl,?_⟩;repeat (refine DF ?_))|apply Cw)
      exact Eb ⟨_,rfl,rfl⟩
    | ok r2=>
      obtain⟨l,x⟩:=r2;rw [h2] at g2
      refine CM Tryz.func148 rfl (Nat.le_of_ble_eq_true rfl) fun F=> ?_
      repeat' (first|apply Cv|refine Ct 0 Cr Au ?_|refine C2 (fun β=> ?_)|refine Cu ?_|apply Cw)
      refine C0 [.q [0,1],.f [4],.h false 2,.h true 3,.h true 5,.q [6]] [] Ac Ac Ac Ac ?_
      repeat' (first|refine Ct 0 Cr Be ?_|refine Ct 3 Cr AN ?_|refine C5 ?_|refine Dd rfl ?_|refine Fq rfl ?_|(refine Ev rfl rfl rfl rfl rfl rfl rfl rfl (Dy 0 most) (by rintro _ _ ⟨b1,b2,rfl,rfl⟩;exact⟨_,rfl⟩) ?_;rintro _ _ ⟨b1,b2,rfl,rfl⟩;refine⟨_,_,rfl,rfl,?_⟩)|(refine EL rfl rfl rfl rfl rfl rfl rfl rfl (g1 _ _) ?_;rintro _ _ ⟨rfl,rfl⟩;refine⟨_,_,rfl,rfl,?_⟩)|(refine EL rfl rfl rfl rfl rfl rfl rfl rfl (g2 _ _) ?_;rintro _ _ ⟨h,base,cap,rfl,os,hx,hl,rfl⟩;refine⟨_,_,rfl,rfl,?_⟩)|apply Cw|refine Cy ?_|apply Cz)
      subst hl;exact EK [h,HZ E3 s x] (CD (Cx rfl)) ⟨h,base,cap,rfl,os,hx,by omega,rfl⟩
end Go.Proofs.YtcnmnmjmpocepaaGreatDoor.Cd
end
section
namespace Go.Proofs.YtcnmnmjmpocepaaGreatDoor.Cd
open Go.SL
def FC (s :List UInt8)(most cl:Int):Rd Me:=fun a=>match E5 s most cl a with
  | .error e=> .error e
  | .ok (ps,a1)=>match num s 1 (fun z=>wi z ps.length 16) a1 with
    | .error e=> .error e
    | .ok (lo,a2)=>match num s 1 (fun z=>wi z 0 32) a2 with
      | .error e=> .error e
      | .ok (st,a3)=>match num s 2 (fun z=>wi z 1 256) a3 with
        | .error e=> .error e
        | .ok (n,a4)=>match rep (J4 s) n.toNat a4 with
          | .error e=> .error e
          | .ok (code,a5)=> .ok (⟨ps,lo,st,code⟩,a5)
theorem fW{s:List UInt8}{a b:Nat}{y:Ins}(h:J4 s a= .ok (y,b)):b≤s.length:=by
  unfold J4 at h
  split at h
  · split at h
    · split at h
      · cases h;exact(GF Ad).2.2
      · cases h
    · cases h
  · cases h
attribute [local irreducible] SL.T Dw DG DE DI Et D0
structure SI where
  j:Nat
  a:Nat
  h:CA
  b:Option Addr
  c:Nat
  l:List Ins
theorem UD(n:Nat)(E3:Nat)(s:List UInt8)(a:Nat)(hs:s.length≤9223372036854775807)(ha:a≤s.length)(hn:n≤1000):
    SL.T Tryz.prog 188 [i64 (n:Int),.func (.func 189) #[ptr E3] #[]] [HZ E3 s a]
      (RQ (rep (J4 s) n a) fun l b e o=>∃h base cap,e= .returned (.slice base n cap)/\OS h base n cap 24 3 (CZ l)/\b≤s.length/\l.length=n/\o= [h,HZ E3 s b]):=by
  refine CM Tryz.func188 rfl (Nat.le_of_ble_eq_true rfl) fun F=> ?_
  refine DH ?_
  repeat' (first|apply Cv|refine Ct 0 Cr Ag ?_|refine Cu ?_|apply Cw|refine Cy ?_|refine CC ?_)
  refine C4 (fun t:SI=> [(1,.func (.func 189) #[ptr E3] #[]),(4,.slice t.b t.j t.c),(5,i64 (n:Int)),(6,i64 (t.j:Int))])
    (fun t=> [t.h,HZ E3 s t.a])
    (fun t=>t.j≤n/\t.a≤s.length/\rep (J4 s) t.j a= .ok (t.l,t.a)/\OS t.h t.b t.j t.c 24 3 (CZ t.l))
    (fun t=>n - t.j) ⟨0,a,emp,none,0,[]⟩ (by repeat first|exact Sub.nil _|refine Sub.cons rfl ?_) ⟨Nat.zero_le _,ha,rfl,OS.nil⟩ ?_
  rintro⟨j,x,h,b,c,l⟩ ⟨hj,hx,hr,os⟩;dsimp only at hj hx hr os ⊢
  by_cases FF:j<n
  · have hk:=Xu E3 s x hs hx;cases h1:J4 s x with
    | error q=>
      rw [h1] at hk
      repeat' (first|apply Cv|refine Ct 0 Cr Ap ?_|refine CO 2 Cr Aj Ab ?_|(refine gk 4 rfl ?_;(refine Ft rfl rfl rfl rfl rfl rfl rfl rfl (hk) ?_;rintro _ _ ⟨Ec,rfl,rfl⟩;refine .inr ⟨_,rfl,?_⟩;repeat (first|refine DF ?_|refine LJ ?_)))|refine Cu ?_|apply Cw|refine CH ?_|refine CC ?_|apply CB)
      rw [Tv FF hr h1];exact Eb ⟨_,rfl,rfl⟩
    | ok r=>
      obtain⟨z,y⟩:=r;rw [h1] at hk
      repeat' (first|apply Cv|refine Ct 0 Cr Ag ?_|refine Ct 1 Cr Ao ?_|refine CO 2 Cr Aj Ab ?_|(refine gk 4 rfl ?_;(refine CK rfl rfl rfl rfl rfl rfl rfl rfl (hk) ?_;rintro _ _ ⟨rfl,rfl⟩;refine⟨_,_,rfl,rfl,?_⟩))|refine gk 4 rfl (EH rfl rfl rfl rfl rfl rfl rfl rfl rfl Ad Av Ah Av Ab Ab (fun h' b' c' HS OU=> ?_))|refine CP (fun b=> ?_)|refine Cu ?_|apply Cw|refine Cy ?_|refine CH ?_|refine CC ?_|apply CB)
      refine⟨rfl,⟨j+1,y,h',b',c',l++ [z]⟩,CX (by repeat first|exact Sub.nil _|refine Sub.cons rfl ?_),⟨by dsimp only;omega,fW h1,by simp only [rep,hr,h1],?_⟩,by dsimp only;omega⟩;dsimp only;rw [F9];simpa [CZ] using HS
  · obtain rfl:j=n:=by omega
    repeat' (first|apply Cv|refine Ct 0 Cr Ag ?_|refine CY 2 Cr Aj Ab ?_|refine Cu ?_|apply Cw|refine Cy ?_|refine CF ?_|apply Cz|refine C1 ?_)
    rw [hr];exact EK [h,HZ E3 s x] (CD (Cx rfl)) ⟨h,b,c,rfl,os,hx,Pk hr,rfl⟩
end Go.Proofs.YtcnmnmjmpocepaaGreatDoor.Cd
end
