
import Derived.Test.YtcnmnmjmpocepaaGreatDoorU00
import Derived.Test.YtcnmnmjmpocepaaGreatDoorU11
import Derived.Test.YtcnmnmjmpocepaaGreatDoorU10
import Derived.Test.YtcnmnmjmpocepaaGreatDoorU13
set_option linter.unusedVariables false
set_option linter.unusedSimpArgs false
set_option linter.unusedSectionVars false
set_option maxRecDepth 100000
set_option maxHeartbeats 16000000
section
namespace Go.Proofs.YtcnmnmjmpocepaaGreatDoor.Cd
open Go.SL
attribute [local irreducible] SL.T C7 Dc C6 Db DS Du
abbrev i64(a:Int):Value:= .int .i64 a
abbrev ptr(b:Nat):Value:= .pointer (some ⟨b,0,none⟩)
structure Ins where
  op:Int
  a:Int
  b:Int
structure Me where
  params:List Int
  lo:Int
  st:Int
  code:List Ins
structure Im where
  cls:List (List Int)
  ms:List Me
def Cp:List Ins->List Value
  | []=> []
  |x::l=>i64 x.op::i64 x.a::i64 x.b::Cp l
theorem CW:∀l:List Ins,(Cp l).length=l.length*3
  | []=>rfl
  |x::l=>by simp [Cp,CW l];omega
theorem F4:∀(l m:List Ins),Cp (l++m)=Cp l++Cp m
  | [],m=>rfl
  |x::l,m=>by simp [Cp,F4 l m]
theorem E3:∀ {l:List Ins} {i:Nat} {x:Ins},l[i]?=some x->(Cp l)[i*3]?=some (i64 x.op)/\(Cp l)[i*3+1]?=some (i64 x.a)/\(Cp l)[i*3+2]?=some (i64 x.b)
  | [],i,x,h=>by simp at h
  |y::l,0,x,h=>by simp at h;subst h;simp [Cp]
  | y::l,i+1,x,h=>by
    have:=E3 (l:=l) (i:=i) (x:=x) (by simpa using h);have e:(i+1)*3=i*3+1+1+1:=by omega
    rw [e];simpa [Cp,Nat.add_right_comm _ 1 1,Nat.add_right_comm _ 1 2] using this
def Qn(K:B6)(cls:List (List Int))(b:Option Addr)(n:Nat):Prop:=
  ∃CY:List Value,Sl K b CY/\CY.length=n/\cls.length=n/\n≤9223372036854775807/\∀(i:Nat) (f:List Int),cls[i]?=some f->∃fb fn fc,CY[i]?=some (.slice fb fn fc)/\Sl K fb (f.map i64)/\f.length=fn/\fn≤9223372036854775807
def W6(K:B6)(ms:List Me)(b:Option Addr)(n:Nat):Prop:=
  ∃ CY:List Value,Sl K b CY/\CY.length=n*4/\ms.length=n/\n≤9223372036854775807/\∀(i:Nat) (m:Me),ms[i]?=some m->∃pb pn pc cb cn cc,CY[i*4]?=some (.slice pb pn pc)/\CY[i*4+1]?=some (i64 m.lo)/\CY[i*4+2]?=some (i64 m.st)/\CY[i*4+3]?=some (.slice cb cn cc)/\
    Sl K pb (m.params.map i64)/\m.params.length=pn/\pn≤9223372036854775807/\Sl K cb (Cp m.code)/\m.code.length=cn/\cn≤cc/\cn≤9223372036854775807
def OQ(K:B6)(x:Im)(v:Value):Prop:=
  ∃DF DW EG mb mn mc,v= .agg ⟨[.slice DF DW EG,.slice mb mn mc]⟩/\Qn K x.cls DF DW/\W6 K x.ms mb mn/\DW≤EG/\mn≤mc
theorem Qn.mono{K K':B6}{cls:List (List Int)}{b:Option Addr}{n:Nat}(h:Qn K cls b n)(l:hle K K'):Qn K' cls b n:=by
  obtain⟨CY,h1,h2,h3,h4,h5⟩:=h;refine⟨CY,h1.mono l,h2,h3,h4,fun i f hf=> ?_⟩;obtain⟨fb,fn,fc,g1,g2,g3⟩:=h5 i f hf;exact⟨fb,fn,fc,g1,g2.mono l,g3⟩
theorem W6.mono{K K':B6}{ms:List Me}{b:Option Addr}{n:Nat}(h:W6 K ms b n)(l:hle K K'):W6 K' ms b n:=by
  obtain⟨CY,h1,h2,h3,h4,h5⟩:=h;refine⟨CY,h1.mono l,h2,h3,h4,fun i m hm=> ?_⟩;obtain⟨pb,pn,pc,cb,cn,cc,g1,g2,g3,g4,g5,g6,g7,g8,g9⟩:=h5 i m hm;exact⟨pb,pn,pc,cb,cn,cc,g1,g2,g3,g4,g5.mono l,g6,g7,g8.mono l,g9⟩
theorem OQ.mono{K K':B6}{x:Im}{v:Value}(h:OQ K x v)(l:hle K K'):OQ K' x v:=by
  obtain⟨DF,DW,EG,mb,mn,mc,h1,h2,h3,h4⟩:=h;exact⟨DF,DW,EG,mb,mn,mc,h1,h2.mono l,h3.mono l,h4⟩
def wi(n least most:Int):Bool:=decide (least≤n/\n≤most)
theorem DG(a b c:Int):C7 Tryz.prog 104 [i64 a,i64 b,i64 c] [] (.bool (wi a b c)):=by
  refine Ci Tryz.func104 rfl (Nat.le_of_ble_eq_true rfl) fun F=> ?_
  by_cases h1:b≤a
  · by_cases h2:a≤c
    · repeat' (first|apply B4|refine B3 0 BY AJ ?_|refine Cs 2 BY BH Ab ?_|refine B0 ?_|apply B5|refine B8 ?_|apply Cb)
      refine Cr (Ce (B7 rfl)) ?_;simp [wi,h1,h2]
    · repeat' (first|apply B4|refine B3 0 BY AJ ?_|refine Cs 2 BY BH Ab ?_|refine CE 2 BY A9 Ab ?_|refine B0 ?_|apply B5|refine B8 ?_|apply Cb)
      refine Cr (Ce (B7 rfl)) ?_;simp [wi,h2]
  · repeat' (first|apply B4|refine B3 0 BY AO ?_|refine Cw 0 BZ ?_|refine Cw 2 BZ ?_|refine CE 2 BY AC Ab ?_|refine B0 ?_|apply B5|refine B8 ?_|apply Cb)
    refine Cr (Ce (B7 rfl)) ?_;simp [wi,h1]
def fi{α:Type}(p:α->Bool)(l:List α):Int:=match l.findIdx? p with|some k=>(k:Int)|none=> -1
theorem Q3{α:Type}{p:α->Bool}{l:List α}{j:Nat}{x:α}(h1:∀y∈l.take j,p y=false)(h2:l[j]?=some x)(h3:p x=true):fi p l=(j:Int):=by
  have:l.findIdx? p=some j:=by
    rw [List.findIdx?_eq_some_iff_getElem];obtain⟨hl,he⟩:=List.getElem?_eq_some_iff.1 h2;refine⟨hl,by rw [he];exact h3,fun k hk=> ?_⟩;have:=h1 l[k] (List.mem_iff_getElem?.2 ⟨k,by rw [List.getElem?_take,if_pos hk,List.getElem?_eq_getElem Ab]⟩);simpa using this
  simp [fi,this]
theorem No{α:Type}{p:α->Bool}{l:List α}(h1:∀y∈l,p y=false):fi p l= -1:=by
  have:l.findIdx? p=none:=by rw [List.findIdx?_eq_none_iff];exact h1
  simp [fi,this]
theorem Q4{α:Type}(p:α->Bool)(l:List α):decide (0≤fi p l)=l.any p:=by
  unfold fi;cases h:l.findIdx? p with
  | none=>
    rw [List.findIdx?_eq_none_iff] at h
    have:l.any p=false:=by rw [List.any_eq_false];intro x hx;simp [h x hx]
    simp [this]
  | some k=>
    rw [List.findIdx?_eq_some_iff_getElem] at h
    obtain⟨hl,he, -⟩:=h;have:l.any p=true:=List.any_eq_true.2 ⟨_,List.getElem_mem hl,he⟩;simp [this]
theorem JN{α:Type}{p:α->Bool}{l:List α}{j:Nat}{x:α}(h1:∀y∈l.take j,p y=false)(h2:l[j]?=some x)(h3:p x=false):∀y∈l.take (j+1),p y=false:=by
  intro y hy;rw [List.take_add_one,h2] at hy
  rcases List.mem_append.1 hy with hy|hy
  · exact h1 y hy
  · simp at hy;subst hy;exact h3
def Z6(cl z:Int):Bool:= !wi z 0 cl
theorem Qw(β:Nat)(cl:Int)(z:Int):C7 Tryz.prog 156 [i64 z,ptr β] [Co β (.cells ⟨[i64 cl]⟩ 3 (0,0))] (.bool (Z6 cl z)):=by
  have hw:=DG z 0 cl;refine Ci Tryz.func156 rfl (Nat.le_of_ble_eq_true rfl) fun F=> ?_
  repeat' (first|apply B4|refine B3 0 BY Bf ?_|refine B3 3 BY AD ?_|refine B3 4 BY (Ca rfl rfl rfl rfl rfl (hw)) ?_|refine B0 ?_|apply B5|refine B8 ?_|apply Cb)
  refine Cr (Ce (B7 rfl)) ?_
  rfl
theorem QX(J:B6)(β:Nat)(cl:Int)(b:Option Addr)(n c:Nat)(zs:List Int) [Sl J b (zs.map i64)](h1:zs.length=n)(DE:n≤9223372036854775807):
    C7 Tryz.prog 191 [.slice b n c,.func (.func 156) #[] #[ptr β]] [J,Co β (.cells ⟨[i64 cl]⟩ 3 (0,0))] (i64 (fi (Z6 cl) zs)):=by
  refine Ci Tryz.func191 rfl (Nat.le_of_ble_eq_true rfl) fun F=> ?_
  repeat' (first|apply B4|refine B3 0 BY Af ?_|refine B3 4 BY Ag ?_|refine B0 ?_|apply B5|refine B8 ?_|refine Cf ?_)
  refine CH (fun j:Nat=> [(0,.slice b n c),(1,.func (.func 156) #[] #[ptr β]),(7,i64 (n:Int)),(8,i64 (j:Int))])
    (fun _=> [J,Co β (.cells ⟨[i64 cl]⟩ 3 (0,0))]) (fun j=>j≤n/\∀y∈zs.take j,Z6 cl y=false) (fun j=>n - j) 0 (by repeat first|exact Sub.nil _|refine Sub.cons rfl ?_) ⟨Nat.zero_le _,by simp⟩ ?_
  rintro j ⟨Pm,Gs⟩;by_cases hj:j<n
  · obtain⟨x,hx⟩:∃z,zs[j]?=some z:=⟨_,List.getElem?_eq_getElem Ab⟩;have hcx:(zs.map i64)[((j:Nat):Int).toNat*1]?=some (i64 x):=by simp [hx]
    have hr:=Qw β cl x;cases hp:Z6 cl x with
    | true=>
      rw [hp] at hr
      repeat' (first|apply B4|refine B3 0 BY Af ?_|refine Cs 2 BY Aj Ab ?_|refine B3 3 BY AE ?_|refine B3 4 BY (Ca rfl rfl rfl rfl rfl (hr)) ?_|refine B0 ?_|apply B5|refine B8 ?_|refine Cl ?_|refine Cf ?_|apply Cb|apply Cc|refine Cx ?_|refine Dd ?_)
      refine Cr (Ce (B7 rfl)) ?_;rw [Q3 Gs hx hp]
    | false=>
      rw [hp] at hr
      repeat' (first|apply B4|refine B3 0 BY Af ?_|refine B3 1 BY Ap ?_|refine Cs 2 BY Aj Ab ?_|refine B3 3 BY AE ?_|refine B3 4 BY (Ca rfl rfl rfl rfl rfl (hr)) ?_|refine B0 ?_|apply B5|refine B8 ?_|refine Cl ?_|refine Cg ?_|refine Cf ?_|apply Cc)
      exact⟨rfl,j+1,CA (by repeat first|exact Sub.nil _|refine Sub.cons rfl ?_),⟨by omega,JN Gs hx hp⟩,by omega⟩
  · repeat' (first|apply B4|refine B3 0 BY Au ?_|refine CE 2 BY Aj Ab ?_|refine B0 ?_|apply B5|refine B8 ?_|refine Cg ?_|apply Cb|refine CC ?_)
    refine Cr (Ce (B7 rfl)) ?_;rw [List.take_of_length_le Ab] at Gs
    rw [No Gs]
theorem Ja(J:B6)(β:Nat)(cl:Int)(b:Option Addr)(n c:Nat)(zs:List Int) [Sl J b (zs.map i64)](h1:zs.length=n)(DE:n≤9223372036854775807):
    C7 Tryz.prog 155 [.slice b n c,.func (.func 156) #[] #[ptr β]] [J,Co β (.cells ⟨[i64 cl]⟩ 3 (0,0))] (.bool (zs.any (Z6 cl))):=by
  have hc:=QX J β cl b n c zs h1 DE;have he:=Q4 (Z6 cl) zs;refine Ci Tryz.func155 rfl (Nat.le_of_ble_eq_true rfl) fun F=> ?_
  repeat' (first|apply B4|refine B3 0 BY Af ?_|refine IC 2 BY AC (fun h=> ?_) (fun h=> ?_)|refine B3 4 BY (Ca rfl rfl rfl rfl rfl (hc)) ?_|refine B0 ?_|apply B5|refine B8 ?_|apply Cb)
  · refine Cr (Ce (B7 rfl)) ?_;rw [<-he];simp [h]
  · refine Cr (Ce (B7 rfl)) ?_;rw [<-he];simp [h]
end Go.Proofs.YtcnmnmjmpocepaaGreatDoor.Cd
end
section
namespace Go.Proofs.YtcnmnmjmpocepaaGreatDoor.Cd
open Go.SL
attribute [local irreducible] SL.T C7 Dc C6 Db DS Du
def HG(l:List Int)(most cl:Int):Bool:=decide ((l.length:Int)≤most) && !l.any (Z6 cl)
theorem MH(J:B6)(b:Option Addr)(n c:Nat)(zs:List Int)(most cl:Int) [Sl J b (zs.map i64)](h1:zs.length=n)(DE:n≤9223372036854775807):
    C7 Tryz.prog 108 [.slice b n c,i64 most,i64 cl] [J] (.bool (HG zs most cl)):=by
  refine Ci Tryz.func108 rfl (Nat.le_of_ble_eq_true rfl) fun F=> ?_
  by_cases h:(n:Int)≤most
  · cases ha:zs.any (Z6 cl)
    · have hc:=fun β=>(Ja J β cl b n c zs h1 DE).to (congrArg Value.bool ha)
      repeat' (first|apply B4|refine B3 0 BY (by first|exact CS rfl rfl|exact CG rfl rfl|exact Ds rfl rfl rfl|exact El rfl rfl|exact DR rfl rfl rfl) ?_|refine Cs 2 BY A9 Ab ?_|refine B3 4 BY Ag ?_|refine B3 4 BY (Ca rfl rfl rfl rfl rfl (hc _)) ?_|refine CF (fun β=> ?_)|refine B0 ?_|apply B5|refine B8 ?_|apply Cb)
      refine Cr (Ce (B7 rfl)) ?_;simp [HG,h1,h,ha]
    · have hc:=fun β=>(Ja J β cl b n c zs h1 DE).to (congrArg Value.bool ha)
      repeat' (first|apply B4|refine B3 0 BY (by first|exact CS rfl rfl|exact CG rfl rfl|exact Ds rfl rfl rfl|exact DU rfl rfl|exact DR rfl rfl rfl) ?_|refine Cs 2 BY A9 Ab ?_|refine B3 4 BY Ag ?_|refine B3 4 BY (Ca rfl rfl rfl rfl rfl (hc _)) ?_|refine CF (fun β=> ?_)|refine B0 ?_|apply B5|refine B8 ?_|apply Cb)
      refine Cr (Ce (B7 rfl)) ?_;simp [HG,h1,h,ha]
  · repeat' (first|apply B4|refine B3 0 BY BI ?_|refine Cw 0 BZ ?_|refine CE 2 BY A9 Ab ?_|refine Cw 4 BZ ?_|refine B3 4 BY Ag ?_|refine CF (fun β=> ?_)|refine B0 ?_|apply B5|refine B8 ?_|apply Cb)
    refine Cr (Ce (B7 rfl)) ?_;simp [HG,h1,h]
def Pa(y:Ins):Bool:= !wi y.op 0 255
theorem Pd(y:Ins):C7 Tryz.prog 153 [.agg ⟨[i64 y.op,i64 y.a,i64 y.b]⟩] [] (.bool (Pa y)):=by
  have hw:=DG y.op 0 255;refine Ci Tryz.func153 rfl (Nat.le_of_ble_eq_true rfl) fun F=> ?_
  repeat' (first|apply B4|refine B3 0 BY Bo ?_|refine B3 3 BY Ah ?_|refine B3 4 BY (Ca rfl rfl rfl rfl rfl (hw)) ?_|refine CF (fun β=> ?_)|refine B0 ?_|apply B5|refine B8 ?_|apply Cb)
  refine Cr (Ce (B7 rfl)) ?_
  rfl
theorem QY(J:B6)(b:Option Addr)(n c:Nat)(zs:List Ins) [Sl J b (Cp zs)](h1:zs.length=n)(DE:n≤9223372036854775807):
    C7 Tryz.prog 190 [.slice b n c,.func (.func 153) #[] #[]] [J] (i64 (fi Pa zs)):=by
  have hfl:=CW zs;refine Ci Tryz.func190 rfl (Nat.le_of_ble_eq_true rfl) fun F=> ?_
  repeat' (first|apply B4|refine B3 0 BY Af ?_|refine B3 4 BY Ag ?_|refine B0 ?_|apply B5|refine B8 ?_|refine Cf ?_)
  refine CH (fun j:Nat=> [(0,.slice b n c),(1,.func (.func 153) #[] #[]),(7,i64 (n:Int)),(8,i64 (j:Int))])
    (fun _=> [J]) (fun j=>j≤n/\∀y∈zs.take j,Pa y=false) (fun j=>n - j) 0 (by repeat first|exact Sub.nil _|refine Sub.cons rfl ?_) ⟨Nat.zero_le _,by simp⟩ ?_
  rintro j ⟨Pm,Gs⟩;by_cases hj:j<n
  · obtain⟨x,hx⟩:∃z,zs[j]?=some z:=⟨_,List.getElem?_eq_getElem Ab⟩;obtain⟨c0,c1,c2⟩:=E3 hx;have hk:((j:Nat):Int).toNat*3<(Cp zs).length:=by simp;omega
    have hc0:(Cp zs)[((j:Nat):Int).toNat*3]?=some (i64 x.op):=by simpa using c0
    have P5:(Cp zs)[((j:Nat):Int).toNat*3+1]?=some (i64 x.a):=by simpa using c1
    have LD:(Cp zs)[((j:Nat):Int).toNat*3+2]?=some (i64 x.b):=by simpa using c2
    have hr:=Pd x;cases hp:Pa x with
    | true=>
      rw [hp] at hr
      repeat' (first|apply B4|refine B3 0 BY Af ?_|refine Cs 2 BY Aj Ab ?_|refine B3 3 BY Bp ?_|refine B3 4 BY (Ca rfl rfl rfl rfl rfl (hr)) ?_|refine B0 ?_|apply B5|refine B8 ?_|refine Cl ?_|refine Cf ?_|apply Cb|apply Cc|refine Cx ?_|refine Dd ?_)
      refine Cr (Ce (B7 rfl)) ?_;rw [Q3 Gs hx hp]
    | false=>
      rw [hp] at hr
      repeat' (first|apply B4|refine B3 0 BY Af ?_|refine B3 1 BY Ap ?_|refine Cs 2 BY Aj Ab ?_|refine B3 3 BY Bp ?_|refine B3 4 BY (Ca rfl rfl rfl rfl rfl (hr)) ?_|refine B0 ?_|apply B5|refine B8 ?_|refine Cl ?_|refine Cg ?_|refine Cf ?_|apply Cc)
      exact⟨rfl,j+1,CA (by repeat first|exact Sub.nil _|refine Sub.cons rfl ?_),⟨by omega,JN Gs hx hp⟩,by omega⟩
  · repeat' (first|apply B4|refine B3 0 BY Au ?_|refine CE 2 BY Aj Ab ?_|refine B0 ?_|apply B5|refine B8 ?_|refine Cg ?_|apply Cb|refine CC ?_)
    refine Cr (Ce (B7 rfl)) ?_;rw [List.take_of_length_le Ab] at Gs
    rw [No Gs]
theorem M1(J:B6)(b:Option Addr)(n c:Nat)(zs:List Ins) [Sl J b (Cp zs)](h1:zs.length=n)(DE:n≤9223372036854775807):
    C7 Tryz.prog 152 [.slice b n c,.func (.func 153) #[] #[]] [J] (.bool (zs.any Pa)):=by
  have hc:=QY J b n c zs h1 DE;have he:=Q4 Pa zs;refine Ci Tryz.func152 rfl (Nat.le_of_ble_eq_true rfl) fun F=> ?_
  repeat' (first|apply B4|refine B3 0 BY Af ?_|refine IC 2 BY AC (fun h=> ?_) (fun h=> ?_)|refine B3 4 BY (Ca rfl rfl rfl rfl rfl (hc)) ?_|refine B0 ?_|apply B5|refine B8 ?_|apply Cb)
  · refine Cr (Ce (B7 rfl)) ?_;rw [<-he];simp [h]
  · refine Cr (Ce (B7 rfl)) ?_;rw [<-he];simp [h]
def Hp(m:Me)(most cl:Int):Bool:=HG m.params most cl && (wi m.lo m.params.length 16 && (wi m.st 0 32 && (wi m.code.length 1 256 && !m.code.any Pa)))
theorem Lv (J:B6)(m:Me)(pb cb:Option Addr)(pn pc cn cc:Nat)(most cl:Int) [Sl J pb (m.params.map i64)] [Sl J cb (Cp m.code)](h1:m.params.length=pn)(h2:m.code.length=cn)(JZ:pn≤9223372036854775807)(OV:cn≤9223372036854775807):
    C7 Tryz.prog 105 [.agg ⟨[.slice pb pn pc,i64 m.lo,i64 m.st,.slice cb cn cc]⟩,i64 most,i64 cl] [J] (.bool (Hp m most cl)):=by
  subst h1 h2;have hr:=MH J pb m.params.length pc m.params most cl rfl JZ;have hc:=M1 J cb m.code.length cc m.code rfl OV;refine Ci Tryz.func105 rfl (Nat.le_of_ble_eq_true rfl) fun F=> ?_
  unfold Hp
  generalize HG m.params most cl=r at*
  generalize m.code.any Pa=a at*
  cases r
  · repeat' (first|apply B4|refine B3 0 BY AO ?_|refine Cw 0 BZ ?_|refine B3 3 BY Ah ?_|refine Cw 3 BZ ?_|refine Cw 4 BZ ?_|refine B3 4 BY (Ca rfl rfl rfl rfl rfl (hr)) ?_|refine CF (fun β=> ?_)|refine B0 ?_|apply B5|refine B8 ?_|apply Cb)
    refine Cr (Ce (B7 rfl)) ?_
    rfl
  · cases e1:wi m.lo m.params.length 16
    · have w1:=(DG m.lo m.params.length 16).to (congrArg Value.bool e1)
      repeat' (first|apply B4|refine B3 0 BY AP ?_|refine Cw 0 BZ ?_|refine B3 3 BY Ah ?_|refine Cw 3 BZ ?_|refine Cw 4 BZ ?_|refine B3 4 BY Ag ?_|refine B3 4 BY (Ca rfl rfl rfl rfl rfl (hr)) ?_|refine B3 4 BY (Ca rfl rfl rfl rfl rfl (w1)) ?_|refine CF (fun β=> ?_)|refine B0 ?_|apply B5|refine B8 ?_|apply Cb)
      refine Cr (Ce (B7 rfl)) ?_
      rfl
    · have w1:=(DG m.lo m.params.length 16).to (congrArg Value.bool e1);cases e2:wi m.st 0 32
      · have w2:=(DG m.st 0 32).to (congrArg Value.bool e2)
        repeat' (first|apply B4|refine B3 0 BY AP ?_|refine Cw 0 BZ ?_|refine B3 3 BY Ah ?_|refine Cw 3 BZ ?_|refine Cw 4 BZ ?_|refine B3 4 BY Ag ?_|refine B3 4 BY (Ca rfl rfl rfl rfl rfl (hr)) ?_|refine B3 4 BY (Ca rfl rfl rfl rfl rfl (w1)) ?_|refine B3 4 BY (Ca rfl rfl rfl rfl rfl (w2)) ?_|refine CF (fun β=> ?_)|refine B0 ?_|apply B5|refine B8 ?_|apply Cb)
        refine Cr (Ce (B7 rfl)) ?_
        rfl
      · have w2:=(DG m.st 0 32).to (congrArg Value.bool e2);cases e3:wi m.code.length 1 256
        · have w3:=(DG m.code.length 1 256).to (congrArg Value.bool e3)
          repeat' (first|apply B4|refine B3 0 BY AP ?_|refine Cw 0 BZ ?_|refine B3 3 BY Ah ?_|refine Cw 3 BZ ?_|refine Cw 4 BZ ?_|refine B3 4 BY Ag ?_|refine B3 4 BY (Ca rfl rfl rfl rfl rfl (hr)) ?_|refine B3 4 BY (Ca rfl rfl rfl rfl rfl (w1)) ?_|refine B3 4 BY (Ca rfl rfl rfl rfl rfl (w2)) ?_|refine B3 4 BY (Ca rfl rfl rfl rfl rfl (w3)) ?_|refine CF (fun β=> ?_)|refine B0 ?_|apply B5|refine B8 ?_|apply Cb)
          refine Cr (Ce (B7 rfl)) ?_
          rfl
        · have w3:=(DG m.code.length 1 256).to (congrArg Value.bool e3);cases a
          · repeat' (first|apply B4|refine B3 0 BY Bq ?_|refine B3 3 BY Ah ?_|refine B3 4 BY Ag ?_|refine B3 4 BY (Ca rfl rfl rfl rfl rfl (hr)) ?_|refine B3 4 BY (Ca rfl rfl rfl rfl rfl (w1)) ?_|refine B3 4 BY (Ca rfl rfl rfl rfl rfl (w2)) ?_|refine B3 4 BY (Ca rfl rfl rfl rfl rfl (w3)) ?_|refine B3 4 BY (Ca rfl rfl rfl rfl rfl (hc)) ?_|refine CF (fun β=> ?_)|refine B0 ?_|apply B5|refine B8 ?_|apply Cb)
            refine Cr (Ce (B7 rfl)) ?_
            rfl
          · repeat' (first|apply B4|refine B3 0 BY Bg ?_|refine B3 3 BY Ah ?_|refine B3 4 BY Ag ?_|refine B3 4 BY (Ca rfl rfl rfl rfl rfl (hr)) ?_|refine B3 4 BY (Ca rfl rfl rfl rfl rfl (w1)) ?_|refine B3 4 BY (Ca rfl rfl rfl rfl rfl (w2)) ?_|refine B3 4 BY (Ca rfl rfl rfl rfl rfl (w3)) ?_|refine B3 4 BY (Ca rfl rfl rfl rfl rfl (hc)) ?_|refine CF (fun β=> ?_)|refine B0 ?_|apply B5|refine B8 ?_|apply Cb)
            refine Cr (Ce (B7 rfl)) ?_
            rfl
end Go.Proofs.YtcnmnmjmpocepaaGreatDoor.Cd
end
section
namespace Go.Proofs.YtcnmnmjmpocepaaGreatDoor.Cd
open Go.SL
attribute [local irreducible] SL.T C7 Dc C6 Db DS Du
def Pr(cl:Int)(f:List Int):Bool:= !HG f 8 cl
theorem Ud(J:B6)(β:Nat)(cl:Int)(f:List Int)(fb:Option Addr)(fn fc:Nat) [Sl J fb (f.map i64)](h1:f.length=fn)(hs:fn≤9223372036854775807):
    C7 Tryz.prog 107 [.agg ⟨[.slice fb fn fc]⟩,ptr β] [J,Co β (.cells ⟨[i64 cl]⟩ 3 (0,0))] (.bool (Pr cl f)):=by
  have hr:=MH J fb fn fc f 8 cl h1 hs;refine Ci Tryz.func107 rfl (Nat.le_of_ble_eq_true rfl) fun F=> ?_
  repeat' (first|apply B4|refine B3 0 BY Bo ?_|refine B3 3 BY Ah ?_|refine B3 4 BY (Ca rfl rfl rfl rfl rfl (hr)) ?_|refine CF (fun β=> ?_)|refine B0 ?_|apply B5|refine B8 ?_|apply Cb)
  refine Cr (Ce (B7 rfl)) ?_
  rfl
theorem QZ(J:B6)(β:Nat)(cl:Int)(b:Option Addr)(n c:Nat)(cls:List (List Int))(h:Qn J cls b n):
    C7 Tryz.prog 154 [.slice b n c,.func (.func 107) #[] #[ptr β]] [J,Co β (.cells ⟨[i64 cl]⟩ 3 (0,0))] (i64 (fi (Pr cl) cls)):=by
  obtain⟨CY,sv,gm,h1,DE,hf⟩:=h;haveI:=sv;refine Ci Tryz.func154 rfl (Nat.le_of_ble_eq_true rfl) fun F=> ?_
  repeat' (first|apply B4|refine B3 0 BY Af ?_|refine B3 4 BY Ag ?_|refine B0 ?_|apply B5|refine B8 ?_|refine Cf ?_)
  refine CH (fun j:Nat=> [(0,.slice b n c),(1,.func (.func 107) #[] #[ptr β]),(7,i64 (n:Int)),(8,i64 (j:Int))])
    (fun _=> [J,Co β (.cells ⟨[i64 cl]⟩ 3 (0,0))]) (fun j=>j≤n/\∀y∈cls.take j,Pr cl y=false) (fun j=>n - j) 0 (by repeat first|exact Sub.nil _|refine Sub.cons rfl ?_) ⟨Nat.zero_le _,by simp⟩ ?_
  rintro j ⟨Pm,Gs⟩;by_cases hj:j<n
  · obtain⟨x,hx⟩:∃z,cls[j]?=some z:=⟨_,List.getElem?_eq_getElem Ab⟩;obtain⟨fb,fn,fc,g1,g2,g3,g4⟩:=hf j x hx;haveI:=g2;have hk:((j:Nat):Int).toNat*1<CY.length:=by simp;omega
    have hcx:CY[((j:Nat):Int).toNat*1]?=some (.slice fb fn fc):=by simpa using g1
    have hr:=Ud J β cl x fb fn fc g3 g4;cases hp:Pr cl x with
    | true=>
      rw [hp] at hr
      repeat' (first|apply B4|refine B3 0 BY Af ?_|refine Cs 2 BY Aj Ab ?_|refine B3 3 BY BJ ?_|refine B3 4 BY (Ca rfl rfl rfl rfl rfl (hr)) ?_|refine B0 ?_|apply B5|refine B8 ?_|refine Cl ?_|refine Cf ?_|apply Cb|apply Cc|refine Cx ?_|refine Dd ?_)
      refine Cr (Ce (B7 rfl)) ?_;rw [Q3 Gs hx hp]
    | false=>
      rw [hp] at hr
      repeat' (first|apply B4|refine B3 0 BY Af ?_|refine B3 1 BY Ap ?_|refine Cs 2 BY Aj Ab ?_|refine B3 3 BY BJ ?_|refine B3 4 BY (Ca rfl rfl rfl rfl rfl (hr)) ?_|refine B0 ?_|apply B5|refine B8 ?_|refine Cl ?_|refine Cg ?_|refine Cf ?_|apply Cc)
      exact⟨rfl,j+1,CA (by repeat first|exact Sub.nil _|refine Sub.cons rfl ?_),⟨by omega,JN Gs hx hp⟩,by omega⟩
  · repeat' (first|apply B4|refine B3 0 BY Au ?_|refine CE 2 BY Aj Ab ?_|refine B0 ?_|apply B5|refine B8 ?_|refine Cg ?_|apply Cb|refine CC ?_)
    refine Cr (Ce (B7 rfl)) ?_;rw [List.take_of_length_le Ab] at Gs
    rw [No Gs]
theorem M3(J:B6)(β:Nat)(cl:Int)(b:Option Addr)(n c:Nat)(cls:List (List Int))(h:Qn J cls b n):
    C7 Tryz.prog 106 [.slice b n c,.func (.func 107) #[] #[ptr β]] [J,Co β (.cells ⟨[i64 cl]⟩ 3 (0,0))] (.bool (cls.any (Pr cl))):=by
  have hc:=QZ J β cl b n c cls h;have he:=Q4 (Pr cl) cls;refine Ci Tryz.func106 rfl (Nat.le_of_ble_eq_true rfl) fun F=> ?_
  repeat' (first|apply B4|refine B3 0 BY Af ?_|refine IC 2 BY AC (fun h=> ?_) (fun h=> ?_)|refine B3 4 BY (Ca rfl rfl rfl rfl rfl (hc)) ?_|refine B0 ?_|apply B5|refine B8 ?_|apply Cb)
  · refine Cr (Ce (B7 rfl)) ?_;rw [<-he];simp [h]
  · refine Cr (Ce (B7 rfl)) ?_;rw [<-he];simp [h]
def Pe(cl:Int)(m:Me):Bool:= !Hp m 16 cl
theorem Uc(J:B6)(β:Nat)(cl:Int)(m:Me)(pb cb:Option Addr)(pn pc cn cc:Nat) [Sl J pb (m.params.map i64)] [Sl J cb (Cp m.code)](h1:m.params.length=pn)(h2:m.code.length=cn)(JZ:pn≤9223372036854775807)(OV:cn≤9223372036854775807):
    C7 Tryz.prog 110 [.agg ⟨[.slice pb pn pc,i64 m.lo,i64 m.st,.slice cb cn cc]⟩,ptr β] [J,Co β (.cells ⟨[i64 cl]⟩ 3 (0,0))] (.bool (Pe cl m)):=by
  have hr:=Lv J m pb cb pn pc cn cc 16 cl h1 h2 JZ OV;refine Ci Tryz.func110 rfl (Nat.le_of_ble_eq_true rfl) fun F=> ?_
  repeat' (first|apply B4|refine B3 0 BY Bo ?_|refine B3 3 BY AR ?_|refine B3 4 BY (Ca rfl rfl rfl rfl rfl (hr)) ?_|refine CF (fun β=> ?_)|refine B0 ?_|apply B5|refine B8 ?_|apply Cb)
  refine Cr (Ce (B7 rfl)) ?_
  rfl
theorem QW(J:B6)(β:Nat)(cl:Int)(b:Option Addr)(n c:Nat)(ms:List Me)(h:W6 J ms b n):
    C7 Tryz.prog 157 [.slice b n c,.func (.func 110) #[] #[ptr β]] [J,Co β (.cells ⟨[i64 cl]⟩ 3 (0,0))] (i64 (fi (Pe cl) ms)):=by
  obtain⟨CY,sv,gm,h1,DE,hf⟩:=h;haveI:=sv;refine Ci Tryz.func157 rfl (Nat.le_of_ble_eq_true rfl) fun F=> ?_
  repeat' (first|apply B4|refine B3 0 BY Af ?_|refine B3 4 BY Ag ?_|refine B0 ?_|apply B5|refine B8 ?_|refine Cf ?_)
  refine CH (fun j:Nat=> [(0,.slice b n c),(1,.func (.func 110) #[] #[ptr β]),(7,i64 (n:Int)),(8,i64 (j:Int))])
    (fun _=> [J,Co β (.cells ⟨[i64 cl]⟩ 3 (0,0))]) (fun j=>j≤n/\∀y∈ms.take j,Pe cl y=false) (fun j=>n - j) 0 (by repeat first|exact Sub.nil _|refine Sub.cons rfl ?_) ⟨Nat.zero_le _,by simp⟩ ?_
  rintro j ⟨Pm,Gs⟩;by_cases hj:j<n
  · obtain⟨x,hx⟩:∃z,ms[j]?=some z:=⟨_,List.getElem?_eq_getElem Ab⟩;obtain⟨pb,pn,pc,cb,cn,cc,g1,g2,g3,g4,g5,g6,g7,g8,g9,g10,g11⟩:=hf j x hx;haveI:=g5;haveI:=g8;have hk:((j:Nat):Int).toNat*4<CY.length:=by simp;omega
    have hc0:CY[((j:Nat):Int).toNat*4]?=some (.slice pb pn pc):=by simpa using g1
    have P5:CY[((j:Nat):Int).toNat*4+1]?=some (i64 x.lo):=by simpa using g2
    have LD:CY[((j:Nat):Int).toNat*4+2]?=some (i64 x.st):=by simpa using g3
    have dU:CY[((j:Nat):Int).toNat*4+3]?=some (.slice cb cn cc):=by simpa using g4
    have hr:=Uc J β cl x pb cb pn pc cn cc g6 g9 g7 g11;cases hp:Pe cl x with
    | true=>
      rw [hp] at hr
      repeat' (first|apply B4|refine B3 0 BY Af ?_|refine Cs 2 BY Aj Ab ?_|refine B3 3 BY Bh ?_|refine B3 4 BY (Ca rfl rfl rfl rfl rfl (hr)) ?_|refine B0 ?_|apply B5|refine B8 ?_|refine Cl ?_|refine Cf ?_|apply Cb|apply Cc|refine Cx ?_|refine Dd ?_)
      refine Cr (Ce (B7 rfl)) ?_;rw [Q3 Gs hx hp]
    | false=>
      rw [hp] at hr
      repeat' (first|apply B4|refine B3 0 BY Af ?_|refine B3 1 BY Ap ?_|refine Cs 2 BY Aj Ab ?_|refine B3 3 BY Bh ?_|refine B3 4 BY (Ca rfl rfl rfl rfl rfl (hr)) ?_|refine B0 ?_|apply B5|refine B8 ?_|refine Cl ?_|refine Cg ?_|refine Cf ?_|apply Cc)
      exact⟨rfl,j+1,CA (by repeat first|exact Sub.nil _|refine Sub.cons rfl ?_),⟨by omega,JN Gs hx hp⟩,by omega⟩
  · repeat' (first|apply B4|refine B3 0 BY Au ?_|refine CE 2 BY Aj Ab ?_|refine B0 ?_|apply B5|refine B8 ?_|refine Cg ?_|apply Cb|refine CC ?_)
    refine Cr (Ce (B7 rfl)) ?_;rw [List.take_of_length_le Ab] at Gs
    rw [No Gs]
theorem M0(J:B6)(β:Nat)(cl:Int)(b:Option Addr)(n c:Nat)(ms:List Me)(h:W6 J ms b n):
    C7 Tryz.prog 109 [.slice b n c,.func (.func 110) #[] #[ptr β]] [J,Co β (.cells ⟨[i64 cl]⟩ 3 (0,0))] (.bool (ms.any (Pe cl))):=by
  have hc:=QW J β cl b n c ms h;have he:=Q4 (Pe cl) ms;refine Ci Tryz.func109 rfl (Nat.le_of_ble_eq_true rfl) fun F=> ?_
  repeat' (first|apply B4|refine B3 0 BY Af ?_|refine IC 2 BY AC (fun h=> ?_) (fun h=> ?_)|refine B3 4 BY (Ca rfl rfl rfl rfl rfl (hc)) ?_|refine B0 ?_|apply B5|refine B8 ?_|apply Cb)
  · refine Cr (Ce (B7 rfl)) ?_;rw [<-he];simp [h]
  · refine Cr (Ce (B7 rfl)) ?_;rw [<-he];simp [h]
end Go.Proofs.YtcnmnmjmpocepaaGreatDoor.Cd
end
section
namespace Go.Proofs.YtcnmnmjmpocepaaGreatDoor.Cd
open Go.SL
attribute [local irreducible] SL.T C7 Dc C6 Db DS Du
def Pf(x:Im):Bool:=decide ((x.cls.length:Int)≤16) && (wi x.ms.length 1 32 && ((match x.ms[0]? with|some m=>Hp m 0 x.cls.length|none=>false) && (!x.cls.any (Pr x.cls.length) && !x.ms.any (Pe x.cls.length))))
theorem Wu (J:B6)(x:Im)(v:Value)(h:OQ J x v):C7 Tryz.prog 61 [v] [J] (.bool (Pf x)):=by
  obtain⟨DF,DW,EG,mb,mn,mc,rfl,hc,hm, -, -⟩:=h;have Kl:x.cls.length=DW:=by obtain⟨_,_,_,h,_⟩:=hc;exact h
  have SF:x.ms.length=mn:=by obtain⟨_,_,_,h,_⟩:=hm;exact h
  have gu:mn≤9223372036854775807:=by obtain⟨_,_,_,_,h,_⟩:=hm;exact h
  have hC:=fun β=>M3 J β DW DF DW EG x.cls hc
  have hM:=fun β=>M0 J β DW mb mn mc x.ms hm
  have hw:=DG (mn:Int) 1 32;unfold Pf;rw [Kl,SF];refine Ci Tryz.func61 rfl (Nat.le_of_ble_eq_true rfl) fun F=> ?_
  by_cases h1:(DW:Int)≤16
  · rw [decide_eq_true h1,Bool.true_and];cases e1:wi (mn:Int) 1 32
    · rw [e1] at hw
      repeat' (first|apply B4|refine B3 0 BY Br ?_|refine Cw 0 BZ ?_|refine CE 2 BY AU Ab ?_|refine B3 3 BY Ah ?_|refine Cw 3 BZ ?_|refine Cw 4 BZ ?_|refine B3 4 BY Ag ?_|refine B3 4 BY (Ca rfl rfl rfl rfl rfl (hw)) ?_|refine CF (fun β=> ?_)|refine Cn (fun β=> ?_)|refine Ck ?_|refine B0 ?_|refine C5 Ac Ac rfl ?_|apply B5|refine B8 ?_|refine Cl ?_|apply Cb|refine Cx ?_)
      refine Cr (Ce (B7 rfl)) ?_
      rfl
    · rw [e1] at hw
      have Gr:0<mn:=by unfold wi at e1;simp at e1;omega
      obtain⟨m,Uy⟩:∃z,x.ms[0]?=some z:=⟨_,List.getElem?_eq_getElem Ab⟩;obtain⟨CY,sv,gm, -, -,hf⟩:=hm;obtain⟨pb,pn,pc,cb,cn,cc,g1,g2,g3,g4,g5,g6,g7,g8,g9,g10,g11⟩:=hf 0 m Uy;haveI:=sv;haveI:=g5;haveI:=g8;have hk:(0:Int).toNat*4<CY.length:=by simp;omega
      have hc0:CY[(0:Int).toNat*4]?=some (.slice pb pn pc):=by simpa using g1
      have P5:CY[(0:Int).toNat*4+1]?=some (i64 m.lo):=by simpa using g2
      have LD:CY[(0:Int).toNat*4+2]?=some (i64 m.st):=by simpa using g3
      have dU:CY[(0:Int).toNat*4+3]?=some (.slice cb cn cc):=by simpa using g4
      have hr:=Lv J m pb cb pn pc cn cc 0 DW g6 g9 g7 g11;rw [Uy];simp only [Bool.true_and]
      generalize Hp m 0 (DW:Int)=bm at*
      generalize x.cls.any (Pr DW)=ba at*
      generalize x.ms.any (Pe DW)=bb at*
      cases bm
      · repeat' (first|apply B4|refine B3 0 BY (by first|exact CS rfl rfl|exact CG rfl rfl|exact DK rfl rfl rfl|exact DU rfl rfl|exact El rfl rfl) ?_|refine CE 2 BY AU Ab ?_|refine B3 3 BY A0 ?_|refine B3 4 BY Ag ?_|refine B3 4 BY (Ca rfl rfl rfl rfl rfl (hw)) ?_|refine B3 4 BY (Ca rfl rfl rfl rfl rfl (hr)) ?_|refine CF (fun β=> ?_)|refine Cn (fun β=> ?_)|refine Ck ?_|refine B0 ?_|refine C5 Ac Ac rfl ?_|apply B5|refine B8 ?_|refine Cl ?_|apply Cb|refine Cx ?_)
        refine Cr (Ce (B7 rfl)) ?_
        rfl
      · cases ba
        · cases bb
          · repeat' (first|apply B4|refine B3 0 BY BK ?_|refine CE 2 BY AU Ab ?_|refine B3 3 BY A0 ?_|refine B3 4 BY Ag ?_|refine B3 4 BY (Ca rfl rfl rfl rfl rfl (hw)) ?_|refine B3 4 BY (Ca rfl rfl rfl rfl rfl (hr)) ?_|refine B3 4 BY (Ca rfl rfl rfl rfl rfl (hC _)) ?_|refine B3 4 BY (Ca rfl rfl rfl rfl rfl (hM _)) ?_|refine CF (fun β=> ?_)|refine Cn (fun β=> ?_)|refine Ck ?_|refine B0 ?_|refine C5 Ac Ac rfl ?_|apply B5|refine B8 ?_|refine Cg ?_|apply Cb|apply Cc)
            refine Cr (Ce (B7 rfl)) ?_
            rfl
          · repeat' (first|apply B4|refine B3 0 BY BK ?_|refine CE 2 BY AU Ab ?_|refine B3 3 BY A0 ?_|refine B3 4 BY Ag ?_|refine B3 4 BY (Ca rfl rfl rfl rfl rfl (hw)) ?_|refine B3 4 BY (Ca rfl rfl rfl rfl rfl (hr)) ?_|refine B3 4 BY (Ca rfl rfl rfl rfl rfl (hC _)) ?_|refine B3 4 BY (Ca rfl rfl rfl rfl rfl (hM _)) ?_|refine CF (fun β=> ?_)|refine Cn (fun β=> ?_)|refine Ck ?_|refine B0 ?_|refine C5 Ac Ac rfl ?_|apply B5|refine B8 ?_|refine Cg ?_|apply Cb|apply Cc)
            refine Cr (Ce (B7 rfl)) ?_
            rfl
        · repeat' (first|apply B4|refine B3 0 BY (by first|exact CS rfl rfl|exact CG rfl rfl|exact DK rfl rfl rfl|exact DU rfl rfl|exact DR rfl rfl rfl) ?_|refine Cw 0 BZ ?_|refine CE 2 BY AU Ab ?_|refine B3 3 BY A0 ?_|refine Cw 3 BZ ?_|refine Cw 4 BZ ?_|refine B3 4 BY Ag ?_|refine B3 4 BY (Ca rfl rfl rfl rfl rfl (hw)) ?_|refine B3 4 BY (Ca rfl rfl rfl rfl rfl (hr)) ?_|refine B3 4 BY (Ca rfl rfl rfl rfl rfl (hC _)) ?_|refine CF (fun β=> ?_)|refine Cn (fun β=> ?_)|refine Ck ?_|refine B0 ?_|refine C5 Ac Ac rfl ?_|apply B5|refine B8 ?_|refine Cg ?_|apply Cb|apply Cc)
          refine Cr (Ce (B7 rfl)) ?_
          rfl
  · rw [decide_eq_false h1,Bool.false_and]
    repeat' (first|apply B4|refine B3 0 BY AJ ?_|refine Cw 0 BZ ?_|refine Cs 2 BY AU Ab ?_|refine B3 3 BY Ah ?_|refine Cw 3 BZ ?_|refine Cw 4 BZ ?_|refine B3 4 BY Ag ?_|refine CF (fun β=> ?_)|refine Cn (fun β=> ?_)|refine Ck ?_|refine B0 ?_|refine C5 Ac Ac rfl ?_|apply B5|refine B8 ?_|refine Cl ?_|apply Cb|refine Cx ?_)
    refine Cr (Ce (B7 rfl)) ?_
    rfl
end Go.Proofs.YtcnmnmjmpocepaaGreatDoor.Cd
end
section
namespace Go.Proofs.YtcnmnmjmpocepaaGreatDoor.Cd
open Go.SL
attribute [local irreducible] SL.T C7 Dc C6 Db DS Du
def HS(n:Int):Nat:=(IntKind.u64.wrap n).toNat
theorem Xn(n:Int):IntKind.u64.wrap n=(HS n:Int):=by
  obtain⟨m, -,h⟩:=Lc n;unfold HS;rw [h];simp
theorem bX(n:Int):HS n<2^64:=by
  obtain⟨m,h1,h⟩:=Lc n;unfold HS;rw [h];simpa using h1
def Ij(w:Nat):Nat->List UInt8
  |0=> []
  |k+1=>Ij w k++ [UInt8.ofNat (w >>>(8*k))]
theorem Ed(w:Nat):∀k,(Ij w k).length=k
  |0=>rfl
  |k+1=>by simp [Ij,Ed w k]
theorem aI{w:Nat}(hw:w<2^64)(j:Nat):IntKind.u8.wrap (shr .u64 (w:Int) ((8*j:Nat):Int))=((UInt8.ofNat (w >>>(8*j))).toNat:Int):=by
  rw [ZI _ hw];simp only [IntKind.wrap,IntKind.bits,IntKind.signed,Bool.false_and,Bool.false_eq_true,if_false];simp
theorem Ox{P:Program}{n:Nat}{fn:Func}{env:Env}{own own1:List B6}{ds:List Deferred}(hs:List B6){v:Value}{Q:Ending->List B6->Prop} [m:Marks ds own own1](hr:Hj P fn.results.toList own1 env n v)
    (hw:∀F w,Sat (F::own1) w->Sat (F::hs) w) (hq:Q (.returned v) hs):Kr P fn n Q .normal env own ds:=⟨v,own1,hs,m,hr,hw,hq⟩
structure SP where
  j:Nat
  h:B6
  b:Option Addr
  c:Nat
theorem Ej{h:B6}{b:Option Addr}{len cap:Nat}{bs:List UInt8}(DD:Nat)(n:Int)(many:Nat)(lb:LB h b len cap 5 1 (O0 bs))(hlen:len≤17592186044416)(j9:many≤8):
    SL.T Tryz.prog 62 [ptr DD,i64 n,i64 many] [Co DD (.cells ⟨[.slice b len cap]⟩ 142 (0,0)),h] fun e o=>∃h' b' c',e= .returned (.tuple #[])/\o= [Co DD (.cells ⟨[.slice b' (len+many) c']⟩ 142 (0,0)),h']/\LB h' b' (len+many) c' 5 1 (O0 (bs++Ij (HS n) many)):=by
  have hw:=Xn n;have Em:=bX n
  generalize HS n=w at*
  refine Ch Tryz.func62 rfl (Nat.le_of_ble_eq_true rfl) fun F=> ?_
  repeat' (first|apply B4|refine B3 0 BY Am ?_|refine B0 ?_|apply B5|refine B8 ?_|refine Cf ?_)
  refine CH (fun s:SP=> [(0,ptr DD),(1,i64 n),(7,i64 (many:Int)),(8,i64 (s.j:Int))])
    (fun s=> [Co DD (.cells ⟨[.slice s.b (len+s.j) s.c]⟩ 142 (0,0)),s.h])
    (fun s=>s.j≤many/\LB s.h s.b (len+s.j) s.c 5 1 (O0 (bs++Ij w s.j)))
    (fun s=>many - s.j) ⟨0,h,b,cap⟩ (by repeat first|exact Sub.nil _|refine Sub.cons rfl ?_) ⟨Nat.zero_le _,by simpa [Ij] using lb⟩ ?_
  clear lb h b cap;rintro⟨j,h,b,cap⟩ ⟨hj,lb⟩;dsimp only at hj lb ⊢
  by_cases Gs:j<many
  · have hmul:Value.int .i64 (IntKind.i64.wrap (8*(j:Int)))=i64 ((8*j:Nat):Int):=by rw [C8 Ab Ab];simp
    have hcv:Value.int .u64 (IntKind.u64.wrap n)= .int .u64 (w:Int):=by rw [hw]
    have hbyte:Value.int .u8 (IntKind.u8.wrap (shr .u64 (w:Int) ((8*j:Nat):Int)))= .int .u8 ((UInt8.ofNat (w >>>(8*j))).toNat:Int):=by rw [aI Em]
    repeat' (first|apply B4|refine B3 0 BY Af ?_|refine Cs 2 BY Aj Ab ?_|refine B0 ?_|apply B5|refine B8 ?_|refine Cl ?_|refine Cf ?_|apply Cc)
    refine Cu [.f [0],.q [1,2,3,4,5,6,7,8,9,10],.an 11,.rv 11,.h true 12,.q [13,14],.h true 15] [] Ac Ac Ac Ac ?_
    repeat' (first|refine Cq rfl rfl rfl ((EM rfl rfl rfl).to hmul) ?_|refine Cq rfl rfl rfl ((CO rfl rfl).to hcv) ?_|refine Cq rfl rfl rfl ((CO rfl rfl).to hbyte) ?_|refine B3 0 BY Am ?_|refine B3 1 BY (by first|exact GN rfl rfl rfl Ab Ab|exact QF rfl rfl rfl Ab) ?_|refine B3 3 BY Ah ?_|refine B3 5 BY Al ?_|refine B0 ?_|refine Cz ?_|refine CQ rfl ?_|refine FD rfl ?_|refine Dg rfl rfl AQ ?_|refine DL rfl rfl rfl (fun β=> ?_)|refine C2 rfl rfl rfl rfl rfl rfl Aa rfl Aa Aa ?_|refine Tk rfl rfl rfl rfl rfl rfl rfl rfl rfl lb Ae As Ae As Ab Ab (fun h' b' c' HT=> ?_)|apply B5|refine B8 ?_)
    have e1:len+j+1=len+(j+1):=by omega
    rw [e1] at HT
    refine⟨rfl,⟨j+1,h',b',c'⟩,CA (by repeat first|exact Sub.nil _|refine Sub.cons rfl ?_),⟨by dsimp only;omega,?_⟩,by dsimp only;omega⟩;dsimp only;rw [Ij,<-List.append_assoc,TN];exact .os HT
  · have e:j=many:=by omega
    subst e
    repeat' (first|apply B4|refine CE 2 BY Aj Ab ?_|refine B0 ?_|apply B5|refine Cg ?_|refine CC ?_|refine Fl ?_|refine Fp ?_)
    exact Ox [Co DD (.cells ⟨[.slice b (len+j) cap]⟩ 142 (0,0)),h] CU (fun F w s=>s) ⟨h,b,cap,rfl,rfl,lb⟩
def kB(l:List Int):List UInt8:=Ij (HS l.length) 1++(l.map fun k=>Ij (HS k) 1).flatten
theorem FC{α β:Type}(f:α->List β){l:List α}{j:Nat}{x:α}(h:l[j]?=some x):((l.take (j+1)).map f).flatten=((l.take j).map f).flatten++f x:=by
  rw [List.take_add_one,h];simp
theorem MN(J:B6){h:B6}{b:Option Addr}{len cap:Nat}{bs:List UInt8}(DD:Nat)(kb:Option Addr)(kn kc:Nat)(l:List Int) [Sl J kb (l.map i64)](hl:l.length=kn)(Yz:kn≤1000)(lb:LB h b len cap 5 1 (O0 bs))(hlen:len≤8796093022208):
    SL.T Tryz.prog 63 [ptr DD,.slice kb kn kc] [J,Co DD (.cells ⟨[.slice b len cap]⟩ 142 (0,0)),h] fun e o=>∃h' b' c',e= .returned (.tuple #[])/\o= [J,Co DD (.cells ⟨[.slice b' (len+(1+kn)) c']⟩ 142 (0,0)),h']/\LB h' b' (len+(1+kn)) c' 5 1 (O0 (bs++kB l)):=by
  have hp:=Ej DD kn 1 lb Ab Ab;refine Ch Tryz.func63 rfl (Nat.le_of_ble_eq_true rfl) fun F=> ?_
  repeat' (first|apply B4|refine B3 0 BY Am ?_|refine B3 4 BY Ag ?_|(refine gk 4 rfl ?_;(refine B9 rfl rfl rfl rfl rfl rfl rfl rfl (hp) ?_;rintro _ _ ⟨h1,b1,c1,rfl,rfl,lb1⟩;refine⟨_,_,rfl,rfl,?_⟩))|refine B0 ?_|apply B5|refine B8 ?_|refine Cf ?_)
  clear hp;refine CH (fun s:SP=> [(0,ptr DD),(1,.slice kb kn kc),(10,.slice kb kn kc),(11,i64 (kn:Int)),(12,i64 (s.j:Int))])
    (fun s=> [J,Co DD (.cells ⟨[.slice s.b (len+1+s.j) s.c]⟩ 142 (0,0)),s.h])
    (fun s=>s.j≤kn/\LB s.h s.b (len+1+s.j) s.c 5 1 (O0 (bs++(Ij (HS kn) 1++((l.take s.j).map fun k=>Ij (HS k) 1).flatten))))
    (fun s=>kn - s.j) ⟨0,h1,b1,c1⟩ (by repeat first|exact Sub.nil _|refine Sub.cons rfl ?_) ⟨Nat.zero_le _,by simpa using lb1⟩ ?_
  clear lb lb1 h h1 b b1 c1 cap;rintro⟨j,h,b,cap⟩ ⟨hj,lb⟩;dsimp only at hj lb ⊢
  by_cases Gs:j<kn
  · obtain⟨x,hx⟩:∃z,l[j]?=some z:=⟨_,List.getElem?_eq_getElem Ab⟩;have hcx:(l.map i64)[((j:Nat):Int).toNat*1]?=some (i64 x):=by simp [hx]
    have hp:=Ej DD x 1 lb Ab Ab
    repeat' (first|apply B4|refine B3 0 BY Af ?_|refine B3 1 BY Ap ?_|refine Cs 2 BY Aj Ab ?_|refine B3 3 BY AE ?_|(refine gk 4 rfl ?_;(refine B9 rfl rfl rfl rfl rfl rfl rfl rfl (hp) ?_;rintro _ _ ⟨h1,b1,c1,rfl,rfl,lb1⟩;refine⟨_,_,rfl,rfl,?_⟩))|refine B0 ?_|apply B5|refine B8 ?_|refine Cl ?_|refine Cf ?_|apply Cc)
    refine⟨rfl,⟨j+1,h1,b1,c1⟩,CA (by repeat first|exact Sub.nil _|refine Sub.cons rfl ?_),⟨by dsimp only;omega,?_⟩,by dsimp only;omega⟩;dsimp only;have e3:len+1+(j+1)=len+1+j+1:=by omega
    rw [FC _ hx,e3];simpa [List.append_assoc] using lb1
  · have e:j=kn:=by omega
    subst e;have e2:len+1+j=len+(1+j):=by omega
    rw [List.take_of_length_le Ab,e2] at lb
    rw [e2]
    repeat' (first|apply B4|refine CE 2 BY Aj Ab ?_|refine B0 ?_|apply B5|refine Cg ?_|refine CC ?_|refine Fl ?_|refine Fp ?_)
    refine Ox [J,Co DD (.cells ⟨[.slice b (len+(1+j)) cap]⟩ 142 (0,0)),h] CU (fun F w s=>s) ⟨h,b,cap,rfl,rfl,?_⟩;rw [kB,hl];exact lb
end Go.Proofs.YtcnmnmjmpocepaaGreatDoor.Cd
end
