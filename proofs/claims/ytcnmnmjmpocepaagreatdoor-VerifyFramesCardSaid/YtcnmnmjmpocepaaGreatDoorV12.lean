
import Derived.Test.YtcnmnmjmpocepaaGreatDoorV00
import Derived.Test.YtcnmnmjmpocepaaGreatDoorV09
import Derived.Test.YtcnmnmjmpocepaaGreatDoorV11
set_option linter.unusedVariables false
set_option linter.unusedSimpArgs false
set_option linter.unusedSectionVars false
set_option maxRecDepth 100000
set_option maxHeartbeats 16000000
section
namespace Go.Proofs.YtcnmnmjmpocepaaGreatDoor.Cd
open Go.SL
attribute [local irreducible] SL.T Dw DG DE DI Et D0
abbrev i64(a:Int):Value:= .int .i64 a
abbrev ptr(b:Nat):Value:= .pointer (some ⟨b,0,none⟩)
structure Ins where
  op:Int
  a:Int
  b:Int
structure Me where
  params:List Int
  lo:Int
  st:Int
  code:List Ins
structure Im where
  cls:List (List Int)
  ms:List Me
def CZ:List Ins->List Value
  | []=> []
  |x::l=>i64 x.op::i64 x.a::i64 x.b::CZ l
theorem Dc:∀l:List Ins,(CZ l).length=l.length*3
  | []=>rfl
  |x::l=>by simp [CZ,Dc l];omega
theorem F9:∀(l m:List Ins),CZ (l++m)=CZ l++CZ m
  | [],m=>rfl
  |x::l,m=>by simp [CZ,F9 l m]
theorem D9:∀ {l:List Ins} {i:Nat} {x:Ins},l[i]?=some x->(CZ l)[i*3]?=some (i64 x.op)/\(CZ l)[i*3+1]?=some (i64 x.a)/\(CZ l)[i*3+2]?=some (i64 x.b)
  | [],i,x,h=>by simp at h
  |y::l,0,x,h=>by simp at h;subst h;simp [CZ]
  | y::l,i+1,x,h=>by
    have:=D9 (l:=l) (i:=i) (x:=x) (by simpa using h);have e:(i+1)*3=i*3+1+1+1:=by omega
    rw [e];simpa [CZ,Nat.add_right_comm _ 1 1,Nat.add_right_comm _ 1 2] using this
def Te(K:CA)(cls:List (List Int))(b:Option Addr)(n:Nat):Prop:=
  ∃C9:List Value,Sl K b C9/\C9.length=n/\cls.length=n/\n≤9223372036854775807/\∀(i:Nat) (f:List Int),cls[i]?=some f->∃fb fn fc,C9[i]?=some (.slice fb fn fc)/\Sl K fb (f.map i64)/\f.length=fn/\fn≤9223372036854775807
def Z9(K:CA)(ms:List Me)(b:Option Addr)(n:Nat):Prop:=
  ∃ C9:List Value,Sl K b C9/\C9.length=n*4/\ms.length=n/\n≤9223372036854775807/\∀(i:Nat) (m:Me),ms[i]?=some m->∃pb pn pc cb cn cc,C9[i*4]?=some (.slice pb pn pc)/\C9[i*4+1]?=some (i64 m.lo)/\C9[i*4+2]?=some (i64 m.st)/\C9[i*4+3]?=some (.slice cb cn cc)/\
    Sl K pb (m.params.map i64)/\m.params.length=pn/\pn≤9223372036854775807/\Sl K cb (CZ m.code)/\m.code.length=cn/\cn≤cc/\cn≤9223372036854775807
def IU(K:CA)(x:Im)(v:Value):Prop:=
  ∃Du Dr DP mb mn mc,v= .agg ⟨[.slice Du Dr DP,.slice mb mn mc]⟩/\Te K x.cls Du Dr/\Z9 K x.ms mb mn/\Dr≤DP/\mn≤mc
theorem Te.mono{K K':CA}{cls:List (List Int)}{b:Option Addr}{n:Nat}(h:Te K cls b n)(l:hle K K'):Te K' cls b n:=by
  obtain⟨C9,h1,h2,h3,h4,h5⟩:=h;refine⟨C9,h1.mono l,h2,h3,h4,fun i f hf=> ?_⟩;obtain⟨fb,fn,fc,g1,g2,g3⟩:=h5 i f hf;exact⟨fb,fn,fc,g1,g2.mono l,g3⟩
theorem Z9.mono{K K':CA}{ms:List Me}{b:Option Addr}{n:Nat}(h:Z9 K ms b n)(l:hle K K'):Z9 K' ms b n:=by
  obtain⟨C9,h1,h2,h3,h4,h5⟩:=h;refine⟨C9,h1.mono l,h2,h3,h4,fun i m hm=> ?_⟩;obtain⟨pb,pn,pc,cb,cn,cc,g1,g2,g3,g4,g5,g6,g7,g8,g9⟩:=h5 i m hm;exact⟨pb,pn,pc,cb,cn,cc,g1,g2,g3,g4,g5.mono l,g6,g7,g8.mono l,g9⟩
theorem IU.mono{K K':CA}{x:Im}{v:Value}(h:IU K x v)(l:hle K K'):IU K' x v:=by
  obtain⟨Du,Dr,DP,mb,mn,mc,h1,h2,h3,h4⟩:=h;exact⟨Du,Dr,DP,mb,mn,mc,h1,h2.mono l,h3.mono l,h4⟩
def wi(n least most:Int):Bool:=decide (least≤n/\n≤most)
theorem EW(a b c:Int):Dw Tryz.prog 104 [i64 a,i64 b,i64 c] [] (.bool (wi a b c)):=by
  refine CL Tryz.func104 rfl (Nat.le_of_ble_eq_true rfl) fun F=> ?_
  by_cases h1:b≤a
  · by_cases h2:a≤c
    · repeat' (first|apply Cv|refine Ct 0 Cr Aw ?_|refine CO 2 Cr B0 Ab ?_|refine Cu ?_|apply Cw|refine Cy ?_|apply Cz)
      refine CS (CD (Cx rfl)) ?_;simp [wi,h1,h2]
    · repeat' (first|apply Cv|refine Ct 0 Cr Aw ?_|refine CO 2 Cr B0 Ab ?_|refine CY 2 Cr Bh Ab ?_|refine Cu ?_|apply Cw|refine Cy ?_|apply Cz)
      refine CS (CD (Cx rfl)) ?_;simp [wi,h2]
  · repeat' (first|apply Cv|refine Ct 0 Cr Az ?_|refine CG 0 Cs ?_|refine CG 2 Cs ?_|refine CY 2 Cr AB Ab ?_|refine Cu ?_|apply Cw|refine Cy ?_|apply Cz)
    refine CS (CD (Cx rfl)) ?_;simp [wi,h1]
def fi{α:Type}(p:α->Bool)(l:List α):Int:=match l.findIdx? p with|some k=>(k:Int)|none=> -1
theorem T4{α:Type}{p:α->Bool}{l:List α}{j:Nat}{x:α}(h1:∀y∈l.take j,p y=false)(h2:l[j]?=some x)(h3:p x=true):fi p l=(j:Int):=by
  have:l.findIdx? p=some j:=by
    rw [List.findIdx?_eq_some_iff_getElem];obtain⟨hl,he⟩:=List.getElem?_eq_some_iff.1 h2;refine⟨hl,by rw [he];exact h3,fun k hk=> ?_⟩;have:=h1 l[k] (List.mem_iff_getElem?.2 ⟨k,by rw [List.getElem?_take,if_pos hk,List.getElem?_eq_getElem Ab]⟩);simpa using this
  simp [fi,this]
theorem Pu{α:Type}{p:α->Bool}{l:List α}(h1:∀y∈l,p y=false):fi p l= -1:=by
  have:l.findIdx? p=none:=by rw [List.findIdx?_eq_none_iff];exact h1
  simp [fi,this]
theorem T5{α:Type}(p:α->Bool)(l:List α):decide (0≤fi p l)=l.any p:=by
  unfold fi;cases h:l.findIdx? p with
  | none=>
    rw [List.findIdx?_eq_none_iff] at h
    have:l.any p=false:=by rw [List.any_eq_false];intro x hx;simp [h x hx]
    simp [this]
  | some k=>
    rw [List.findIdx?_eq_some_iff_getElem] at h
    obtain⟨hl,he, -⟩:=h;have:l.any p=true:=List.any_eq_true.2 ⟨_,List.getElem_mem hl,he⟩;simp [this]
theorem IV{α:Type}{p:α->Bool}{l:List α}{j:Nat}{x:α}(h1:∀y∈l.take j,p y=false)(h2:l[j]?=some x)(h3:p x=false):∀y∈l.take (j+1),p y=false:=by
  intro y hy;rw [List.take_add_one,h2] at hy
  rcases List.mem_append.1 hy with hy|hy
  · exact h1 y hy
  · simp at hy;subst hy;exact h3
def RE(cl z:Int):Bool:= !wi z 0 cl
theorem Tu(β:Nat)(cl:Int)(z:Int):Dw Tryz.prog 156 [i64 z,ptr β] [CV β (.cells ⟨[i64 cl]⟩ 3 (0,0))] (.bool (RE cl z)):=by
  have hw:=EW z 0 cl;refine CL Tryz.func156 rfl (Nat.le_of_ble_eq_true rfl) fun F=> ?_
  repeat' (first|apply Cv|refine Ct 0 Cr By ?_|refine Ct 3 Cr AN ?_|refine Ct 4 Cr (CE rfl rfl rfl rfl rfl (hw)) ?_|refine Cu ?_|apply Cw|refine Cy ?_|apply Cz)
  refine CS (CD (Cx rfl)) ?_
  rfl
theorem TX(J:CA)(β:Nat)(cl:Int)(b:Option Addr)(n c:Nat)(zs:List Int) [Sl J b (zs.map i64)](h1:zs.length=n)(DO:n≤9223372036854775807):
    Dw Tryz.prog 191 [.slice b n c,.func (.func 156) #[] #[ptr β]] [J,CV β (.cells ⟨[i64 cl]⟩ 3 (0,0))] (i64 (fi (RE cl) zs)):=by
  refine CL Tryz.func191 rfl (Nat.le_of_ble_eq_true rfl) fun F=> ?_
  repeat' (first|apply Cv|refine Ct 0 Cr Ag ?_|refine Ct 4 Cr Ae ?_|refine Cu ?_|apply Cw|refine Cy ?_|refine CC ?_)
  refine C4 (fun j:Nat=> [(0,.slice b n c),(1,.func (.func 156) #[] #[ptr β]),(7,i64 (n:Int)),(8,i64 (j:Int))])
    (fun _=> [J,CV β (.cells ⟨[i64 cl]⟩ 3 (0,0))]) (fun j=>j≤n/\∀y∈zs.take j,RE cl y=false) (fun j=>n - j) 0 (by repeat first|exact Sub.nil _|refine Sub.cons rfl ?_) ⟨Nat.zero_le _,by simp⟩ ?_
  rintro j ⟨LV,FF⟩;by_cases hj:j<n
  · obtain⟨x,hx⟩:∃z,zs[j]?=some z:=⟨_,List.getElem?_eq_getElem Ab⟩;have hcx:(zs.map i64)[((j:Nat):Int).toNat*1]?=some (i64 x):=by simp [hx]
    have hr:=Tu β cl x;cases hp:RE cl x with
    | true=>
      rw [hp] at hr
      repeat' (first|apply Cv|refine Ct 0 Cr Ag ?_|refine CO 2 Cr Aj Ab ?_|refine Ct 3 Cr AK ?_|refine Ct 4 Cr (CE rfl rfl rfl rfl rfl (hr)) ?_|refine Cu ?_|apply Cw|refine Cy ?_|refine CH ?_|refine CC ?_|apply Cz|apply CB|refine CQ ?_|refine C3 ?_)
      refine CS (CD (Cx rfl)) ?_;rw [T4 FF hx hp]
    | false=>
      rw [hp] at hr
      repeat' (first|apply Cv|refine Ct 0 Cr Ag ?_|refine Ct 1 Cr Ao ?_|refine CO 2 Cr Aj Ab ?_|refine Ct 3 Cr AK ?_|refine Ct 4 Cr (CE rfl rfl rfl rfl rfl (hr)) ?_|refine Cu ?_|apply Cw|refine Cy ?_|refine CH ?_|refine CF ?_|refine CC ?_|apply CB)
      exact⟨rfl,j+1,CX (by repeat first|exact Sub.nil _|refine Sub.cons rfl ?_),⟨by omega,IV FF hx hp⟩,by omega⟩
  · repeat' (first|apply Cv|refine Ct 0 Cr Au ?_|refine CY 2 Cr Aj Ab ?_|refine Cu ?_|apply Cw|refine Cy ?_|refine CF ?_|apply Cz|refine C1 ?_)
    refine CS (CD (Cx rfl)) ?_;rw [List.take_of_length_le Ab] at FF
    rw [Pu FF]
theorem KM(J:CA)(β:Nat)(cl:Int)(b:Option Addr)(n c:Nat)(zs:List Int) [Sl J b (zs.map i64)](h1:zs.length=n)(DO:n≤9223372036854775807):
    Dw Tryz.prog 155 [.slice b n c,.func (.func 156) #[] #[ptr β]] [J,CV β (.cells ⟨[i64 cl]⟩ 3 (0,0))] (.bool (zs.any (RE cl))):=by
  have hc:=TX J β cl b n c zs h1 DO;have he:=T5 (RE cl) zs;refine CL Tryz.func155 rfl (Nat.le_of_ble_eq_true rfl) fun F=> ?_
  repeat' (first|apply Cv|refine Ct 0 Cr Ag ?_|refine G5 2 Cr AB (fun h=> ?_) (fun h=> ?_)|refine Ct 4 Cr (CE rfl rfl rfl rfl rfl (hc)) ?_|refine Cu ?_|apply Cw|refine Cy ?_|apply Cz)
  · refine CS (CD (Cx rfl)) ?_;rw [<-he];simp [h]
  · refine CS (CD (Cx rfl)) ?_;rw [<-he];simp [h]
end Go.Proofs.YtcnmnmjmpocepaaGreatDoor.Cd
end
section
namespace Go.Proofs.YtcnmnmjmpocepaaGreatDoor.Cd
open Go.SL
attribute [local irreducible] SL.T Dw DG DE DI Et D0
def Hh(l:List Int)(most cl:Int):Bool:=decide ((l.length:Int)≤most) && !l.any (RE cl)
theorem OI(J:CA)(b:Option Addr)(n c:Nat)(zs:List Int)(most cl:Int) [Sl J b (zs.map i64)](h1:zs.length=n)(DO:n≤9223372036854775807):
    Dw Tryz.prog 108 [.slice b n c,i64 most,i64 cl] [J] (.bool (Hh zs most cl)):=by
  refine CL Tryz.func108 rfl (Nat.le_of_ble_eq_true rfl) fun F=> ?_
  by_cases h:(n:Int)≤most
  · cases ha:zs.any (RE cl)
    · have hc:=fun β=>(KM J β cl b n c zs h1 DO).to (congrArg Value.bool ha)
      repeat' (first|apply Cv|refine Ct 0 Cr (by first|exact Dh rfl rfl|exact Db rfl rfl|exact DS rfl rfl rfl|exact EU rfl rfl|exact Eu rfl rfl rfl) ?_|refine CO 2 Cr Bh Ab ?_|refine Ct 4 Cr Ae ?_|refine Ct 4 Cr (CE rfl rfl rfl rfl rfl (hc _)) ?_|refine C2 (fun β=> ?_)|refine Cu ?_|apply Cw|refine Cy ?_|apply Cz)
      refine CS (CD (Cx rfl)) ?_;simp [Hh,h1,h,ha]
    · have hc:=fun β=>(KM J β cl b n c zs h1 DO).to (congrArg Value.bool ha)
      repeat' (first|apply Cv|refine Ct 0 Cr (by first|exact Dh rfl rfl|exact Db rfl rfl|exact DS rfl rfl rfl|exact Eg rfl rfl|exact Eu rfl rfl rfl) ?_|refine CO 2 Cr Bh Ab ?_|refine Ct 4 Cr Ae ?_|refine Ct 4 Cr (CE rfl rfl rfl rfl rfl (hc _)) ?_|refine C2 (fun β=> ?_)|refine Cu ?_|apply Cw|refine Cy ?_|apply Cz)
      refine CS (CD (Cx rfl)) ?_;simp [Hh,h1,h,ha]
  · repeat' (first|apply Cv|refine Ct 0 Cr B3 ?_|refine CG 0 Cs ?_|refine CY 2 Cr Bh Ab ?_|refine CG 4 Cs ?_|refine Ct 4 Cr Ae ?_|refine C2 (fun β=> ?_)|refine Cu ?_|apply Cw|refine Cy ?_|apply Cz)
    refine CS (CD (Cx rfl)) ?_;simp [Hh,h1,h]
def LS(y:Ins):Bool:= !wi y.op 0 255
theorem Rz(y:Ins):Dw Tryz.prog 153 [.agg ⟨[i64 y.op,i64 y.a,i64 y.b]⟩] [] (.bool (LS y)):=by
  have hw:=EW y.op 0 255;refine CL Tryz.func153 rfl (Nat.le_of_ble_eq_true rfl) fun F=> ?_
  repeat' (first|apply Cv|refine Ct 0 Cr BL ?_|refine Ct 3 Cr Af ?_|refine Ct 4 Cr (CE rfl rfl rfl rfl rfl (hw)) ?_|refine C2 (fun β=> ?_)|refine Cu ?_|apply Cw|refine Cy ?_|apply Cz)
  refine CS (CD (Cx rfl)) ?_
  rfl
theorem TY(J:CA)(b:Option Addr)(n c:Nat)(zs:List Ins) [Sl J b (CZ zs)](h1:zs.length=n)(DO:n≤9223372036854775807):
    Dw Tryz.prog 190 [.slice b n c,.func (.func 153) #[] #[]] [J] (i64 (fi LS zs)):=by
  have hfl:=Dc zs;refine CL Tryz.func190 rfl (Nat.le_of_ble_eq_true rfl) fun F=> ?_
  repeat' (first|apply Cv|refine Ct 0 Cr Ag ?_|refine Ct 4 Cr Ae ?_|refine Cu ?_|apply Cw|refine Cy ?_|refine CC ?_)
  refine C4 (fun j:Nat=> [(0,.slice b n c),(1,.func (.func 153) #[] #[]),(7,i64 (n:Int)),(8,i64 (j:Int))])
    (fun _=> [J]) (fun j=>j≤n/\∀y∈zs.take j,LS y=false) (fun j=>n - j) 0 (by repeat first|exact Sub.nil _|refine Sub.cons rfl ?_) ⟨Nat.zero_le _,by simp⟩ ?_
  rintro j ⟨LV,FF⟩;by_cases hj:j<n
  · obtain⟨x,hx⟩:∃z,zs[j]?=some z:=⟨_,List.getElem?_eq_getElem Ab⟩;obtain⟨c0,c1,c2⟩:=D9 hx;have hk:((j:Nat):Int).toNat*3<(CZ zs).length:=by simp;omega
    have hc0:(CZ zs)[((j:Nat):Int).toNat*3]?=some (i64 x.op):=by simpa using c0
    have L9:(CZ zs)[((j:Nat):Int).toNat*3+1]?=some (i64 x.a):=by simpa using c1
    have L8:(CZ zs)[((j:Nat):Int).toNat*3+2]?=some (i64 x.b):=by simpa using c2
    have hr:=Rz x;cases hp:LS x with
    | true=>
      rw [hp] at hr
      repeat' (first|apply Cv|refine Ct 0 Cr Ag ?_|refine CO 2 Cr Aj Ab ?_|refine Ct 3 Cr BM ?_|refine Ct 4 Cr (CE rfl rfl rfl rfl rfl (hr)) ?_|refine Cu ?_|apply Cw|refine Cy ?_|refine CH ?_|refine CC ?_|apply Cz|apply CB|refine CQ ?_|refine C3 ?_)
      refine CS (CD (Cx rfl)) ?_;rw [T4 FF hx hp]
    | false=>
      rw [hp] at hr
      repeat' (first|apply Cv|refine Ct 0 Cr Ag ?_|refine Ct 1 Cr Ao ?_|refine CO 2 Cr Aj Ab ?_|refine Ct 3 Cr BM ?_|refine Ct 4 Cr (CE rfl rfl rfl rfl rfl (hr)) ?_|refine Cu ?_|apply Cw|refine Cy ?_|refine CH ?_|refine CF ?_|refine CC ?_|apply CB)
      exact⟨rfl,j+1,CX (by repeat first|exact Sub.nil _|refine Sub.cons rfl ?_),⟨by omega,IV FF hx hp⟩,by omega⟩
  · repeat' (first|apply Cv|refine Ct 0 Cr Au ?_|refine CY 2 Cr Aj Ab ?_|refine Cu ?_|apply Cw|refine Cy ?_|refine CF ?_|apply Cz|refine C1 ?_)
    refine CS (CD (Cx rfl)) ?_;rw [List.take_of_length_le Ab] at FF
    rw [Pu FF]
theorem O8(J:CA)(b:Option Addr)(n c:Nat)(zs:List Ins) [Sl J b (CZ zs)](h1:zs.length=n)(DO:n≤9223372036854775807):
    Dw Tryz.prog 152 [.slice b n c,.func (.func 153) #[] #[]] [J] (.bool (zs.any LS)):=by
  have hc:=TY J b n c zs h1 DO;have he:=T5 LS zs;refine CL Tryz.func152 rfl (Nat.le_of_ble_eq_true rfl) fun F=> ?_
  repeat' (first|apply Cv|refine Ct 0 Cr Ag ?_|refine G5 2 Cr AB (fun h=> ?_) (fun h=> ?_)|refine Ct 4 Cr (CE rfl rfl rfl rfl rfl (hc)) ?_|refine Cu ?_|apply Cw|refine Cy ?_|apply Cz)
  · refine CS (CD (Cx rfl)) ?_;rw [<-he];simp [h]
  · refine CS (CD (Cx rfl)) ?_;rw [<-he];simp [h]
def GP(m:Me)(most cl:Int):Bool:=Hh m.params most cl && (wi m.lo m.params.length 16 && (wi m.st 0 32 && (wi m.code.length 1 256 && !m.code.any LS)))
theorem Nk (J:CA)(m:Me)(pb cb:Option Addr)(pn pc cn cc:Nat)(most cl:Int) [Sl J pb (m.params.map i64)] [Sl J cb (CZ m.code)](h1:m.params.length=pn)(h2:m.code.length=cn)(Kp:pn≤9223372036854775807)(MS:cn≤9223372036854775807):
    Dw Tryz.prog 105 [.agg ⟨[.slice pb pn pc,i64 m.lo,i64 m.st,.slice cb cn cc]⟩,i64 most,i64 cl] [J] (.bool (GP m most cl)):=by
  subst h1 h2;have hr:=OI J pb m.params.length pc m.params most cl rfl Kp;have hc:=O8 J cb m.code.length cc m.code rfl MS;refine CL Tryz.func105 rfl (Nat.le_of_ble_eq_true rfl) fun F=> ?_
  unfold GP
  generalize Hh m.params most cl=r at*
  generalize m.code.any LS=a at*
  cases r
  · repeat' (first|apply Cv|refine Ct 0 Cr Az ?_|refine CG 0 Cs ?_|refine Ct 3 Cr Af ?_|refine CG 3 Cs ?_|refine CG 4 Cs ?_|refine Ct 4 Cr (CE rfl rfl rfl rfl rfl (hr)) ?_|refine C2 (fun β=> ?_)|refine Cu ?_|apply Cw|refine Cy ?_|apply Cz)
    refine CS (CD (Cx rfl)) ?_
    rfl
  · cases e1:wi m.lo m.params.length 16
    · have w1:=(EW m.lo m.params.length 16).to (congrArg Value.bool e1)
      repeat' (first|apply Cv|refine Ct 0 Cr Ay ?_|refine CG 0 Cs ?_|refine Ct 3 Cr Af ?_|refine CG 3 Cs ?_|refine CG 4 Cs ?_|refine Ct 4 Cr Ae ?_|refine Ct 4 Cr (CE rfl rfl rfl rfl rfl (hr)) ?_|refine Ct 4 Cr (CE rfl rfl rfl rfl rfl (w1)) ?_|refine C2 (fun β=> ?_)|refine Cu ?_|apply Cw|refine Cy ?_|apply Cz)
      refine CS (CD (Cx rfl)) ?_
      rfl
    · have w1:=(EW m.lo m.params.length 16).to (congrArg Value.bool e1);cases e2:wi m.st 0 32
      · have w2:=(EW m.st 0 32).to (congrArg Value.bool e2)
        repeat' (first|apply Cv|refine Ct 0 Cr Ay ?_|refine CG 0 Cs ?_|refine Ct 3 Cr Af ?_|refine CG 3 Cs ?_|refine CG 4 Cs ?_|refine Ct 4 Cr Ae ?_|refine Ct 4 Cr (CE rfl rfl rfl rfl rfl (hr)) ?_|refine Ct 4 Cr (CE rfl rfl rfl rfl rfl (w1)) ?_|refine Ct 4 Cr (CE rfl rfl rfl rfl rfl (w2)) ?_|refine C2 (fun β=> ?_)|refine Cu ?_|apply Cw|refine Cy ?_|apply Cz)
        refine CS (CD (Cx rfl)) ?_
        rfl
      · have w2:=(EW m.st 0 32).to (congrArg Value.bool e2);cases e3:wi m.code.length 1 256
        · have w3:=(EW m.code.length 1 256).to (congrArg Value.bool e3)
          repeat' (first|apply Cv|refine Ct 0 Cr Ay ?_|refine CG 0 Cs ?_|refine Ct 3 Cr Af ?_|refine CG 3 Cs ?_|refine CG 4 Cs ?_|refine Ct 4 Cr Ae ?_|refine Ct 4 Cr (CE rfl rfl rfl rfl rfl (hr)) ?_|refine Ct 4 Cr (CE rfl rfl rfl rfl rfl (w1)) ?_|refine Ct 4 Cr (CE rfl rfl rfl rfl rfl (w2)) ?_|refine Ct 4 Cr (CE rfl rfl rfl rfl rfl (w3)) ?_|refine C2 (fun β=> ?_)|refine Cu ?_|apply Cw|refine Cy ?_|apply Cz)
          refine CS (CD (Cx rfl)) ?_
          rfl
        · have w3:=(EW m.code.length 1 256).to (congrArg Value.bool e3);cases a
          · repeat' (first|apply Cv|refine Ct 0 Cr Bz ?_|refine Ct 3 Cr Af ?_|refine Ct 4 Cr Ae ?_|refine Ct 4 Cr (CE rfl rfl rfl rfl rfl (hr)) ?_|refine Ct 4 Cr (CE rfl rfl rfl rfl rfl (w1)) ?_|refine Ct 4 Cr (CE rfl rfl rfl rfl rfl (w2)) ?_|refine Ct 4 Cr (CE rfl rfl rfl rfl rfl (w3)) ?_|refine Ct 4 Cr (CE rfl rfl rfl rfl rfl (hc)) ?_|refine C2 (fun β=> ?_)|refine Cu ?_|apply Cw|refine Cy ?_|apply Cz)
            refine CS (CD (Cx rfl)) ?_
            rfl
          · repeat' (first|apply Cv|refine Ct 0 Cr BA ?_|refine Ct 3 Cr Af ?_|refine Ct 4 Cr Ae ?_|refine Ct 4 Cr (CE rfl rfl rfl rfl rfl (hr)) ?_|refine Ct 4 Cr (CE rfl rfl rfl rfl rfl (w1)) ?_|refine Ct 4 Cr (CE rfl rfl rfl rfl rfl (w2)) ?_|refine Ct 4 Cr (CE rfl rfl rfl rfl rfl (w3)) ?_|refine Ct 4 Cr (CE rfl rfl rfl rfl rfl (hc)) ?_|refine C2 (fun β=> ?_)|refine Cu ?_|apply Cw|refine Cy ?_|apply Cz)
            refine CS (CD (Cx rfl)) ?_
            rfl
end Go.Proofs.YtcnmnmjmpocepaaGreatDoor.Cd
end
section
namespace Go.Proofs.YtcnmnmjmpocepaaGreatDoor.Cd
open Go.SL
attribute [local irreducible] SL.T Dw DG DE DI Et D0
def Ou(cl:Int)(f:List Int):Bool:= !Hh f 8 cl
theorem Xg(J:CA)(β:Nat)(cl:Int)(f:List Int)(fb:Option Addr)(fn fc:Nat) [Sl J fb (f.map i64)](h1:f.length=fn)(hs:fn≤9223372036854775807):
    Dw Tryz.prog 107 [.agg ⟨[.slice fb fn fc]⟩,ptr β] [J,CV β (.cells ⟨[i64 cl]⟩ 3 (0,0))] (.bool (Ou cl f)):=by
  have hr:=OI J fb fn fc f 8 cl h1 hs;refine CL Tryz.func107 rfl (Nat.le_of_ble_eq_true rfl) fun F=> ?_
  repeat' (first|apply Cv|refine Ct 0 Cr BL ?_|refine Ct 3 Cr Af ?_|refine Ct 4 Cr (CE rfl rfl rfl rfl rfl (hr)) ?_|refine C2 (fun β=> ?_)|refine Cu ?_|apply Cw|refine Cy ?_|apply Cz)
  refine CS (CD (Cx rfl)) ?_
  rfl
theorem TZ(J:CA)(β:Nat)(cl:Int)(b:Option Addr)(n c:Nat)(cls:List (List Int))(h:Te J cls b n):
    Dw Tryz.prog 154 [.slice b n c,.func (.func 107) #[] #[ptr β]] [J,CV β (.cells ⟨[i64 cl]⟩ 3 (0,0))] (i64 (fi (Ou cl) cls)):=by
  obtain⟨C9,sv,iA,h1,DO,hf⟩:=h;haveI:=sv;refine CL Tryz.func154 rfl (Nat.le_of_ble_eq_true rfl) fun F=> ?_
  repeat' (first|apply Cv|refine Ct 0 Cr Ag ?_|refine Ct 4 Cr Ae ?_|refine Cu ?_|apply Cw|refine Cy ?_|refine CC ?_)
  refine C4 (fun j:Nat=> [(0,.slice b n c),(1,.func (.func 107) #[] #[ptr β]),(7,i64 (n:Int)),(8,i64 (j:Int))])
    (fun _=> [J,CV β (.cells ⟨[i64 cl]⟩ 3 (0,0))]) (fun j=>j≤n/\∀y∈cls.take j,Ou cl y=false) (fun j=>n - j) 0 (by repeat first|exact Sub.nil _|refine Sub.cons rfl ?_) ⟨Nat.zero_le _,by simp⟩ ?_
  rintro j ⟨LV,FF⟩;by_cases hj:j<n
  · obtain⟨x,hx⟩:∃z,cls[j]?=some z:=⟨_,List.getElem?_eq_getElem Ab⟩;obtain⟨fb,fn,fc,g1,g2,g3,g4⟩:=hf j x hx;haveI:=g2;have hk:((j:Nat):Int).toNat*1<C9.length:=by simp;omega
    have hcx:C9[((j:Nat):Int).toNat*1]?=some (.slice fb fn fc):=by simpa using g1
    have hr:=Xg J β cl x fb fn fc g3 g4;cases hp:Ou cl x with
    | true=>
      rw [hp] at hr
      repeat' (first|apply Cv|refine Ct 0 Cr Ag ?_|refine CO 2 Cr Aj Ab ?_|refine Ct 3 Cr B4 ?_|refine Ct 4 Cr (CE rfl rfl rfl rfl rfl (hr)) ?_|refine Cu ?_|apply Cw|refine Cy ?_|refine CH ?_|refine CC ?_|apply Cz|apply CB|refine CQ ?_|refine C3 ?_)
      refine CS (CD (Cx rfl)) ?_;rw [T4 FF hx hp]
    | false=>
      rw [hp] at hr
      repeat' (first|apply Cv|refine Ct 0 Cr Ag ?_|refine Ct 1 Cr Ao ?_|refine CO 2 Cr Aj Ab ?_|refine Ct 3 Cr B4 ?_|refine Ct 4 Cr (CE rfl rfl rfl rfl rfl (hr)) ?_|refine Cu ?_|apply Cw|refine Cy ?_|refine CH ?_|refine CF ?_|refine CC ?_|apply CB)
      exact⟨rfl,j+1,CX (by repeat first|exact Sub.nil _|refine Sub.cons rfl ?_),⟨by omega,IV FF hx hp⟩,by omega⟩
  · repeat' (first|apply Cv|refine Ct 0 Cr Au ?_|refine CY 2 Cr Aj Ab ?_|refine Cu ?_|apply Cw|refine Cy ?_|refine CF ?_|apply Cz|refine C1 ?_)
    refine CS (CD (Cx rfl)) ?_;rw [List.take_of_length_le Ab] at FF
    rw [Pu FF]
theorem O9(J:CA)(β:Nat)(cl:Int)(b:Option Addr)(n c:Nat)(cls:List (List Int))(h:Te J cls b n):
    Dw Tryz.prog 106 [.slice b n c,.func (.func 107) #[] #[ptr β]] [J,CV β (.cells ⟨[i64 cl]⟩ 3 (0,0))] (.bool (cls.any (Ou cl))):=by
  have hc:=TZ J β cl b n c cls h;have he:=T5 (Ou cl) cls;refine CL Tryz.func106 rfl (Nat.le_of_ble_eq_true rfl) fun F=> ?_
  repeat' (first|apply Cv|refine Ct 0 Cr Ag ?_|refine G5 2 Cr AB (fun h=> ?_) (fun h=> ?_)|refine Ct 4 Cr (CE rfl rfl rfl rfl rfl (hc)) ?_|refine Cu ?_|apply Cw|refine Cy ?_|apply Cz)
  · refine CS (CD (Cx rfl)) ?_;rw [<-he];simp [h]
  · refine CS (CD (Cx rfl)) ?_;rw [<-he];simp [h]
def Nl(cl:Int)(m:Me):Bool:= !GP m 16 cl
theorem Xf(J:CA)(β:Nat)(cl:Int)(m:Me)(pb cb:Option Addr)(pn pc cn cc:Nat) [Sl J pb (m.params.map i64)] [Sl J cb (CZ m.code)](h1:m.params.length=pn)(h2:m.code.length=cn)(Kp:pn≤9223372036854775807)(MS:cn≤9223372036854775807):
    Dw Tryz.prog 110 [.agg ⟨[.slice pb pn pc,i64 m.lo,i64 m.st,.slice cb cn cc]⟩,ptr β] [J,CV β (.cells ⟨[i64 cl]⟩ 3 (0,0))] (.bool (Nl cl m)):=by
  have hr:=Nk J m pb cb pn pc cn cc 16 cl h1 h2 Kp MS;refine CL Tryz.func110 rfl (Nat.le_of_ble_eq_true rfl) fun F=> ?_
  repeat' (first|apply Cv|refine Ct 0 Cr BL ?_|refine Ct 3 Cr A2 ?_|refine Ct 4 Cr (CE rfl rfl rfl rfl rfl (hr)) ?_|refine C2 (fun β=> ?_)|refine Cu ?_|apply Cw|refine Cy ?_|apply Cz)
  refine CS (CD (Cx rfl)) ?_
  rfl
theorem TW(J:CA)(β:Nat)(cl:Int)(b:Option Addr)(n c:Nat)(ms:List Me)(h:Z9 J ms b n):
    Dw Tryz.prog 157 [.slice b n c,.func (.func 110) #[] #[ptr β]] [J,CV β (.cells ⟨[i64 cl]⟩ 3 (0,0))] (i64 (fi (Nl cl) ms)):=by
  obtain⟨C9,sv,iA,h1,DO,hf⟩:=h;haveI:=sv;refine CL Tryz.func157 rfl (Nat.le_of_ble_eq_true rfl) fun F=> ?_
  repeat' (first|apply Cv|refine Ct 0 Cr Ag ?_|refine Ct 4 Cr Ae ?_|refine Cu ?_|apply Cw|refine Cy ?_|refine CC ?_)
  refine C4 (fun j:Nat=> [(0,.slice b n c),(1,.func (.func 110) #[] #[ptr β]),(7,i64 (n:Int)),(8,i64 (j:Int))])
    (fun _=> [J,CV β (.cells ⟨[i64 cl]⟩ 3 (0,0))]) (fun j=>j≤n/\∀y∈ms.take j,Nl cl y=false) (fun j=>n - j) 0 (by repeat first|exact Sub.nil _|refine Sub.cons rfl ?_) ⟨Nat.zero_le _,by simp⟩ ?_
  rintro j ⟨LV,FF⟩;by_cases hj:j<n
  · obtain⟨x,hx⟩:∃z,ms[j]?=some z:=⟨_,List.getElem?_eq_getElem Ab⟩;obtain⟨pb,pn,pc,cb,cn,cc,g1,g2,g3,g4,g5,g6,g7,g8,g9,g10,g11⟩:=hf j x hx;haveI:=g5;haveI:=g8;have hk:((j:Nat):Int).toNat*4<C9.length:=by simp;omega
    have hc0:C9[((j:Nat):Int).toNat*4]?=some (.slice pb pn pc):=by simpa using g1
    have L9:C9[((j:Nat):Int).toNat*4+1]?=some (i64 x.lo):=by simpa using g2
    have L8:C9[((j:Nat):Int).toNat*4+2]?=some (i64 x.st):=by simpa using g3
    have jZ:C9[((j:Nat):Int).toNat*4+3]?=some (.slice cb cn cc):=by simpa using g4
    have hr:=Xf J β cl x pb cb pn pc cn cc g6 g9 g7 g11;cases hp:Nl cl x with
    | true=>
      rw [hp] at hr
      repeat' (first|apply Cv|refine Ct 0 Cr Ag ?_|refine CO 2 Cr Aj Ab ?_|refine Ct 3 Cr BN ?_|refine Ct 4 Cr (CE rfl rfl rfl rfl rfl (hr)) ?_|refine Cu ?_|apply Cw|refine Cy ?_|refine CH ?_|refine CC ?_|apply Cz|apply CB|refine CQ ?_|refine C3 ?_)
      refine CS (CD (Cx rfl)) ?_;rw [T4 FF hx hp]
    | false=>
      rw [hp] at hr
      repeat' (first|apply Cv|refine Ct 0 Cr Ag ?_|refine Ct 1 Cr Ao ?_|refine CO 2 Cr Aj Ab ?_|refine Ct 3 Cr BN ?_|refine Ct 4 Cr (CE rfl rfl rfl rfl rfl (hr)) ?_|refine Cu ?_|apply Cw|refine Cy ?_|refine CH ?_|refine CF ?_|refine CC ?_|apply CB)
      exact⟨rfl,j+1,CX (by repeat first|exact Sub.nil _|refine Sub.cons rfl ?_),⟨by omega,IV FF hx hp⟩,by omega⟩
  · repeat' (first|apply Cv|refine Ct 0 Cr Au ?_|refine CY 2 Cr Aj Ab ?_|refine Cu ?_|apply Cw|refine Cy ?_|refine CF ?_|apply Cz|refine C1 ?_)
    refine CS (CD (Cx rfl)) ?_;rw [List.take_of_length_le Ab] at FF
    rw [Pu FF]
theorem O7(J:CA)(β:Nat)(cl:Int)(b:Option Addr)(n c:Nat)(ms:List Me)(h:Z9 J ms b n):
    Dw Tryz.prog 109 [.slice b n c,.func (.func 110) #[] #[ptr β]] [J,CV β (.cells ⟨[i64 cl]⟩ 3 (0,0))] (.bool (ms.any (Nl cl))):=by
  have hc:=TW J β cl b n c ms h;have he:=T5 (Nl cl) ms;refine CL Tryz.func109 rfl (Nat.le_of_ble_eq_true rfl) fun F=> ?_
  repeat' (first|apply Cv|refine Ct 0 Cr Ag ?_|refine G5 2 Cr AB (fun h=> ?_) (fun h=> ?_)|refine Ct 4 Cr (CE rfl rfl rfl rfl rfl (hc)) ?_|refine Cu ?_|apply Cw|refine Cy ?_|apply Cz)
  · refine CS (CD (Cx rfl)) ?_;rw [<-he];simp [h]
  · refine CS (CD (Cx rfl)) ?_;rw [<-he];simp [h]
end Go.Proofs.YtcnmnmjmpocepaaGreatDoor.Cd
end
section
namespace Go.Proofs.YtcnmnmjmpocepaaGreatDoor.Cd
open Go.SL
attribute [local irreducible] SL.T Dw DG DE DI Et D0
def JK(x:Im):Bool:=decide ((x.cls.length:Int)≤16) && (wi x.ms.length 1 32 && ((match x.ms[0]? with|some m=>GP m 0 x.cls.length|none=>false) && (!x.cls.any (Ou x.cls.length) && !x.ms.any (Nl x.cls.length))))
theorem Zz (J:CA)(x:Im)(v:Value)(h:IU J x v):Dw Tryz.prog 61 [v] [J] (.bool (JK x)):=by
  obtain⟨Du,Dr,DP,mb,mn,mc,rfl,hc,hm, -, -⟩:=h;have Jt:x.cls.length=Dr:=by obtain⟨_,_,_,h,_⟩:=hc;exact h
  have Pr:x.ms.length=mn:=by obtain⟨_,_,_,h,_⟩:=hm;exact h
  have iH:mn≤9223372036854775807:=by obtain⟨_,_,_,_,h,_⟩:=hm;exact h
  have hC:=fun β=>O9 J β Dr Du Dr DP x.cls hc
  have hM:=fun β=>O7 J β Dr mb mn mc x.ms hm
  have hw:=EW (mn:Int) 1 32;unfold JK;rw [Jt,Pr];refine CL Tryz.func61 rfl (Nat.le_of_ble_eq_true rfl) fun F=> ?_
  by_cases h1:(Dr:Int)≤16
  · rw [decide_eq_true h1,Bool.true_and];cases e1:wi (mn:Int) 1 32
    · rw [e1] at hw
      repeat' (first|apply Cv|refine Ct 0 Cr Bp ?_|refine CG 0 Cs ?_|refine CY 2 Cr AQ Ab ?_|refine Ct 3 Cr Af ?_|refine CG 3 Cs ?_|refine CG 4 Cs ?_|refine Ct 4 Cr Ae ?_|refine Ct 4 Cr (CE rfl rfl rfl rfl rfl (hw)) ?_|refine C2 (fun β=> ?_)|refine CT (fun β=> ?_)|refine CN ?_|refine Cu ?_|refine De Ac Ac rfl ?_|apply Cw|refine Cy ?_|refine CH ?_|apply Cz|refine CQ ?_)
      refine CS (CD (Cx rfl)) ?_
      rfl
    · rw [e1] at hw
      have GJ:0<mn:=by unfold wi at e1;simp at e1;omega
      obtain⟨m,Sy⟩:∃z,x.ms[0]?=some z:=⟨_,List.getElem?_eq_getElem Ab⟩;obtain⟨C9,sv,iA, -, -,hf⟩:=hm;obtain⟨pb,pn,pc,cb,cn,cc,g1,g2,g3,g4,g5,g6,g7,g8,g9,g10,g11⟩:=hf 0 m Sy;haveI:=sv;haveI:=g5;haveI:=g8;have hk:(0:Int).toNat*4<C9.length:=by simp;omega
      have hc0:C9[(0:Int).toNat*4]?=some (.slice pb pn pc):=by simpa using g1
      have L9:C9[(0:Int).toNat*4+1]?=some (i64 m.lo):=by simpa using g2
      have L8:C9[(0:Int).toNat*4+2]?=some (i64 m.st):=by simpa using g3
      have jZ:C9[(0:Int).toNat*4+3]?=some (.slice cb cn cc):=by simpa using g4
      have hr:=Nk J m pb cb pn pc cn cc 0 Dr g6 g9 g7 g11;rw [Sy];simp only [Bool.true_and]
      generalize GP m 0 (Dr:Int)=bm at*
      generalize x.cls.any (Ou Dr)=ba at*
      generalize x.ms.any (Nl Dr)=bb at*
      cases bm
      · repeat' (first|apply Cv|refine Ct 0 Cr (by first|exact Dh rfl rfl|exact Db rfl rfl|exact DY rfl rfl rfl|exact Eg rfl rfl|exact EU rfl rfl) ?_|refine CY 2 Cr AQ Ab ?_|refine Ct 3 Cr AZ ?_|refine Ct 4 Cr Ae ?_|refine Ct 4 Cr (CE rfl rfl rfl rfl rfl (hw)) ?_|refine Ct 4 Cr (CE rfl rfl rfl rfl rfl (hr)) ?_|refine C2 (fun β=> ?_)|refine CT (fun β=> ?_)|refine CN ?_|refine Cu ?_|refine De Ac Ac rfl ?_|apply Cw|refine Cy ?_|refine CH ?_|apply Cz|refine CQ ?_)
        refine CS (CD (Cx rfl)) ?_
        rfl
      · cases ba
        · cases bb
          · repeat' (first|apply Cv|refine Ct 0 Cr B5 ?_|refine CY 2 Cr AQ Ab ?_|refine Ct 3 Cr AZ ?_|refine Ct 4 Cr Ae ?_|refine Ct 4 Cr (CE rfl rfl rfl rfl rfl (hw)) ?_|refine Ct 4 Cr (CE rfl rfl rfl rfl rfl (hr)) ?_|refine Ct 4 Cr (CE rfl rfl rfl rfl rfl (hC _)) ?_|refine Ct 4 Cr (CE rfl rfl rfl rfl rfl (hM _)) ?_|refine C2 (fun β=> ?_)|refine CT (fun β=> ?_)|refine CN ?_|refine Cu ?_|refine De Ac Ac rfl ?_|apply Cw|refine Cy ?_|refine CF ?_|apply Cz|apply CB)
            refine CS (CD (Cx rfl)) ?_
            rfl
          · repeat' (first|apply Cv|refine Ct 0 Cr B5 ?_|refine CY 2 Cr AQ Ab ?_|refine Ct 3 Cr AZ ?_|refine Ct 4 Cr Ae ?_|refine Ct 4 Cr (CE rfl rfl rfl rfl rfl (hw)) ?_|refine Ct 4 Cr (CE rfl rfl rfl rfl rfl (hr)) ?_|refine Ct 4 Cr (CE rfl rfl rfl rfl rfl (hC _)) ?_|refine Ct 4 Cr (CE rfl rfl rfl rfl rfl (hM _)) ?_|refine C2 (fun β=> ?_)|refine CT (fun β=> ?_)|refine CN ?_|refine Cu ?_|refine De Ac Ac rfl ?_|apply Cw|refine Cy ?_|refine CF ?_|apply Cz|apply CB)
            refine CS (CD (Cx rfl)) ?_
            rfl
        · repeat' (first|apply Cv|refine Ct 0 Cr (by first|exact Dh rfl rfl|exact Db rfl rfl|exact DY rfl rfl rfl|exact Eg rfl rfl|exact Eu rfl rfl rfl) ?_|refine CG 0 Cs ?_|refine CY 2 Cr AQ Ab ?_|refine Ct 3 Cr AZ ?_|refine CG 3 Cs ?_|refine CG 4 Cs ?_|refine Ct 4 Cr Ae ?_|refine Ct 4 Cr (CE rfl rfl rfl rfl rfl (hw)) ?_|refine Ct 4 Cr (CE rfl rfl rfl rfl rfl (hr)) ?_|refine Ct 4 Cr (CE rfl rfl rfl rfl rfl (hC _)) ?_|refine C2 (fun β=> ?_)|refine CT (fun β=> ?_)|refine CN ?_|refine Cu ?_|refine De Ac Ac rfl ?_|apply Cw|refine Cy ?_|refine CF ?_|apply Cz|apply CB)
          refine CS (CD (Cx rfl)) ?_
          rfl
  · rw [decide_eq_false h1,Bool.false_and]
    repeat' (first|apply Cv|refine Ct 0 Cr Aw ?_|refine CG 0 Cs ?_|refine CO 2 Cr AQ Ab ?_|refine Ct 3 Cr Af ?_|refine CG 3 Cs ?_|refine CG 4 Cs ?_|refine Ct 4 Cr Ae ?_|refine C2 (fun β=> ?_)|refine CT (fun β=> ?_)|refine CN ?_|refine Cu ?_|refine De Ac Ac rfl ?_|apply Cw|refine Cy ?_|refine CH ?_|apply Cz|refine CQ ?_)
    refine CS (CD (Cx rfl)) ?_
    rfl
end Go.Proofs.YtcnmnmjmpocepaaGreatDoor.Cd
end
section
namespace Go.Proofs.YtcnmnmjmpocepaaGreatDoor.Cd
open Go.SL
attribute [local irreducible] SL.T Dw DG DE DI Et D0
def G1(n:Int):Nat:=(IntKind.u64.wrap n).toNat
theorem WG(n:Int):IntKind.u64.wrap n=(G1 n:Int):=by
  obtain⟨m, -,h⟩:=MV n;unfold G1;rw [h];simp
theorem I0(n:Int):G1 n<2^64:=by
  obtain⟨m,h1,h⟩:=MV n;unfold G1;rw [h];simpa using h1
def G9(w:Nat):Nat->List UInt8
  |0=> []
  |k+1=>G9 w k++ [UInt8.ofNat (w >>>(8*k))]
theorem Em(w:Nat):∀k,(G9 w k).length=k
  |0=>rfl
  |k+1=>by simp [G9,Em w k]
theorem YM{w:Nat}(hw:w<2^64)(j:Nat):IntKind.u8.wrap (shr .u64 (w:Int) ((8*j:Nat):Int))=((UInt8.ofNat (w >>>(8*j))).toNat:Int):=by
  rw [fe _ hw];simp only [IntKind.wrap,IntKind.bits,IntKind.signed,Bool.false_and,Bool.false_eq_true,if_false];simp
theorem QG{P:Program}{n:Nat}{fn:Func}{env:Env}{own own1:List CA}{ds:List Deferred}(hs:List CA){v:Value}{Q:Ending->List CA->Prop} [m:Marks ds own own1](hr:IK P fn.results.toList own1 env n v)
    (hw:∀F w,Sat (F::own1) w->Sat (F::hs) w) (hq:Q (.returned v) hs):Mf P fn n Q .normal env own ds:=⟨v,own1,hs,m,hr,hw,hq⟩
structure SP where
  j:Nat
  h:CA
  b:Option Addr
  c:Nat
theorem Fa{h:CA}{b:Option Addr}{len cap:Nat}{bs:List UInt8}(Ed:Nat)(n:Int)(many:Nat)(lb:LB h b len cap 5 1 (IB bs))(hlen:len≤17592186044416)(pY:many≤8):
    SL.T Tryz.prog 62 [ptr Ed,i64 n,i64 many] [CV Ed (.cells ⟨[.slice b len cap]⟩ 142 (0,0)),h] fun e o=>∃h' b' c',e= .returned (.tuple #[])/\o= [CV Ed (.cells ⟨[.slice b' (len+many) c']⟩ 142 (0,0)),h']/\LB h' b' (len+many) c' 5 1 (IB (bs++G9 (G1 n) many)):=by
  have hw:=WG n;have E6:=I0 n
  generalize G1 n=w at*
  refine CM Tryz.func62 rfl (Nat.le_of_ble_eq_true rfl) fun F=> ?_
  repeat' (first|apply Cv|refine Ct 0 Cr Ap ?_|refine Cu ?_|apply Cw|refine Cy ?_|refine CC ?_)
  refine C4 (fun s:SP=> [(0,ptr Ed),(1,i64 n),(7,i64 (many:Int)),(8,i64 (s.j:Int))])
    (fun s=> [CV Ed (.cells ⟨[.slice s.b (len+s.j) s.c]⟩ 142 (0,0)),s.h])
    (fun s=>s.j≤many/\LB s.h s.b (len+s.j) s.c 5 1 (IB (bs++G9 w s.j)))
    (fun s=>many - s.j) ⟨0,h,b,cap⟩ (by repeat first|exact Sub.nil _|refine Sub.cons rfl ?_) ⟨Nat.zero_le _,by simpa [G9] using lb⟩ ?_
  clear lb h b cap;rintro⟨j,h,b,cap⟩ ⟨hj,lb⟩;dsimp only at hj lb ⊢
  by_cases FF:j<many
  · have hmul:Value.int .i64 (IntKind.i64.wrap (8*(j:Int)))=i64 ((8*j:Nat):Int):=by rw [Dz Ab Ab];simp
    have hcv:Value.int .u64 (IntKind.u64.wrap n)= .int .u64 (w:Int):=by rw [hw]
    have hbyte:Value.int .u8 (IntKind.u8.wrap (shr .u64 (w:Int) ((8*j:Nat):Int)))= .int .u8 ((UInt8.ofNat (w >>>(8*j))).toNat:Int):=by rw [YM E6]
    repeat' (first|apply Cv|refine Ct 0 Cr Ag ?_|refine CO 2 Cr Aj Ab ?_|refine Cu ?_|apply Cw|refine Cy ?_|refine CH ?_|refine CC ?_|apply CB)
    refine C0 [.f [0],.q [1,2,3,4,5,6,7,8,9,10],.an 11,.rv 11,.h true 12,.q [13,14],.h true 15] [] Ac Ac Ac Ac ?_
    repeat' (first|refine CW rfl rfl rfl ((Fu rfl rfl rfl).to hmul) ?_|refine CW rfl rfl rfl ((C8 rfl rfl).to hcv) ?_|refine CW rfl rfl rfl ((C8 rfl rfl).to hbyte) ?_|refine Ct 0 Cr Ap ?_|refine Ct 1 Cr B6 ?_|refine Ct 3 Cr Af ?_|refine Ct 5 Cr Ak ?_|refine Cu ?_|refine C5 ?_|refine Dd rfl ?_|refine Fq rfl ?_|refine Dn rfl rfl AU ?_|refine DN rfl rfl rfl (fun β=> ?_)|refine Df rfl rfl rfl rfl rfl rfl Aa rfl Aa Aa ?_|refine V5 rfl rfl rfl rfl rfl rfl rfl rfl rfl lb Ah Av Ah Av Ab Ab (fun h' b' c' HS=> ?_)|apply Cw|refine Cy ?_)
    have e1:len+j+1=len+(j+1):=by omega
    rw [e1] at HS
    refine⟨rfl,⟨j+1,h',b',c'⟩,CX (by repeat first|exact Sub.nil _|refine Sub.cons rfl ?_),⟨by dsimp only;omega,?_⟩,by dsimp only;omega⟩;dsimp only;rw [G9,<-List.append_assoc,WI];exact .os HS
  · have e:j=many:=by omega
    subst e
    repeat' (first|apply Cv|refine CY 2 Cr Aj Ab ?_|refine Cu ?_|apply Cw|refine CF ?_|refine C1 ?_|refine Gf ?_|refine Gh ?_)
    exact QG [CV Ed (.cells ⟨[.slice b (len+j) cap]⟩ 142 (0,0)),h] Dt (fun F w s=>s) ⟨h,b,cap,rfl,rfl,lb⟩
def kB(l:List Int):List UInt8:=G9 (G1 l.length) 1++(l.map fun k=>G9 (G1 k) 1).flatten
theorem D8{α β:Type}(f:α->List β){l:List α}{j:Nat}{x:α}(h:l[j]?=some x):((l.take (j+1)).map f).flatten=((l.take j).map f).flatten++f x:=by
  rw [List.take_add_one,h];simp
theorem OQ(J:CA){h:CA}{b:Option Addr}{len cap:Nat}{bs:List UInt8}(Ed:Nat)(kb:Option Addr)(kn kc:Nat)(l:List Int) [Sl J kb (l.map i64)](hl:l.length=kn)(Yz:kn≤1000)(lb:LB h b len cap 5 1 (IB bs))(hlen:len≤8796093022208):
    SL.T Tryz.prog 63 [ptr Ed,.slice kb kn kc] [J,CV Ed (.cells ⟨[.slice b len cap]⟩ 142 (0,0)),h] fun e o=>∃h' b' c',e= .returned (.tuple #[])/\o= [J,CV Ed (.cells ⟨[.slice b' (len+(1+kn)) c']⟩ 142 (0,0)),h']/\LB h' b' (len+(1+kn)) c' 5 1 (IB (bs++kB l)):=by
  have hp:=Fa Ed kn 1 lb Ab Ab;refine CM Tryz.func63 rfl (Nat.le_of_ble_eq_true rfl) fun F=> ?_
  repeat' (first|apply Cv|refine Ct 0 Cr Ap ?_|refine Ct 4 Cr Ae ?_|(refine gk 4 rfl ?_;(refine CK rfl rfl rfl rfl rfl rfl rfl rfl (hp) ?_;rintro _ _ ⟨h1,b1,c1,rfl,rfl,lb1⟩;refine⟨_,_,rfl,rfl,?_⟩))|refine Cu ?_|apply Cw|refine Cy ?_|refine CC ?_)
  clear hp;refine C4 (fun s:SP=> [(0,ptr Ed),(1,.slice kb kn kc),(10,.slice kb kn kc),(11,i64 (kn:Int)),(12,i64 (s.j:Int))])
    (fun s=> [J,CV Ed (.cells ⟨[.slice s.b (len+1+s.j) s.c]⟩ 142 (0,0)),s.h])
    (fun s=>s.j≤kn/\LB s.h s.b (len+1+s.j) s.c 5 1 (IB (bs++(G9 (G1 kn) 1++((l.take s.j).map fun k=>G9 (G1 k) 1).flatten))))
    (fun s=>kn - s.j) ⟨0,h1,b1,c1⟩ (by repeat first|exact Sub.nil _|refine Sub.cons rfl ?_) ⟨Nat.zero_le _,by simpa using lb1⟩ ?_
  clear lb lb1 h h1 b b1 c1 cap;rintro⟨j,h,b,cap⟩ ⟨hj,lb⟩;dsimp only at hj lb ⊢
  by_cases FF:j<kn
  · obtain⟨x,hx⟩:∃z,l[j]?=some z:=⟨_,List.getElem?_eq_getElem Ab⟩;have hcx:(l.map i64)[((j:Nat):Int).toNat*1]?=some (i64 x):=by simp [hx]
    have hp:=Fa Ed x 1 lb Ab Ab
    repeat' (first|apply Cv|refine Ct 0 Cr Ag ?_|refine Ct 1 Cr Ao ?_|refine CO 2 Cr Aj Ab ?_|refine Ct 3 Cr AK ?_|(refine gk 4 rfl ?_;(refine CK rfl rfl rfl rfl rfl rfl rfl rfl (hp) ?_;rintro _ _ ⟨h1,b1,c1,rfl,rfl,lb1⟩;refine⟨_,_,rfl,rfl,?_⟩))|refine Cu ?_|apply Cw|refine Cy ?_|refine CH ?_|refine CC ?_|apply CB)
    refine⟨rfl,⟨j+1,h1,b1,c1⟩,CX (by repeat first|exact Sub.nil _|refine Sub.cons rfl ?_),⟨by dsimp only;omega,?_⟩,by dsimp only;omega⟩;dsimp only;have e3:len+1+(j+1)=len+1+j+1:=by omega
    rw [D8 _ hx,e3];simpa [List.append_assoc] using lb1
  · have e:j=kn:=by omega
    subst e;have e2:len+1+j=len+(1+j):=by omega
    rw [List.take_of_length_le Ab,e2] at lb
    rw [e2]
    repeat' (first|apply Cv|refine CY 2 Cr Aj Ab ?_|refine Cu ?_|apply Cw|refine CF ?_|refine C1 ?_|refine Gf ?_|refine Gh ?_)
    refine QG [J,CV Ed (.cells ⟨[.slice b (len+(1+j)) cap]⟩ 142 (0,0)),h] Dt (fun F w s=>s) ⟨h,b,cap,rfl,rfl,?_⟩;rw [kB,hl];exact lb
end Go.Proofs.YtcnmnmjmpocepaaGreatDoor.Cd
end
