
import Derived.Test.YtcnmnmjmpocepaaGreatDoorV00
import Derived.Test.YtcnmnmjmpocepaaGreatDoorV09
import Derived.Test.YtcnmnmjmpocepaaGreatDoorV13
set_option linter.unusedVariables false
set_option linter.unusedSimpArgs false
set_option linter.unusedSectionVars false
set_option maxRecDepth 100000
set_option maxHeartbeats 16000000
section
namespace Go.Proofs.YtcnmnmjmpocepaaGreatDoor.Cd
open Go.SL
attribute [local irreducible] SL.T Dw DG DE DI Et D0
theorem FM(w many:Nat)(hw:w<2^64)(hm:many≤8):Dw Tryz.prog 29 [.int .u64 (w:Int),i64 many] [] (str (G9 w many)):=by
  refine CL Tryz.func29 rfl (Nat.le_of_ble_eq_true rfl) fun F=> ?_
  repeat' (first|apply Cv|refine Ct 0 Cr Au ?_|refine Cu ?_|apply Cw|refine Cy ?_|refine CC ?_)
  refine C4 (fun j:Nat=> [(0,.int .u64 (w:Int)),(1,i64 (many:Int)),(5,str (G9 w j)),(6,i64 (j:Int))])
    (fun _=> []) (fun j=>j≤many) (fun j=>many - j) 0 (by repeat first|exact Sub.nil _|refine Sub.cons rfl ?_) (Nat.zero_le _) ?_
  rintro j hj;by_cases FF:j<many
  · have hmul:Value.int .i64 (IntKind.i64.wrap (8*(j:Int)))=i64 ((8*j:Nat):Int):=by rw [Dz Ab Ab];simp
    have hbyte:Value.int .u8 (IntKind.u8.wrap (shr .u64 (w:Int) ((8*j:Nat):Int)))= .int .u8 ((UInt8.ofNat (w >>>(8*j))).toNat:Int):=by rw [YM hw]
    have hll:=Em w j
    repeat' (first|refine CW rfl rfl rfl ((Fu rfl rfl rfl).to hmul) ?_|refine CW rfl rfl rfl ((C8 rfl rfl).to hbyte) ?_|refine CW rfl rfl rfl (LC (e:=5) (l:= [UInt8.ofNat (w >>>(8*j))]) rfl rfl Ai rfl) ?_|refine CW rfl rfl rfl (HJ rfl rfl rfl AT) ?_|apply Cv|refine Ct 0 Cr Ag ?_|refine Ct 1 Cr B6 ?_|refine CO 2 Cr Aj Ab ?_|refine CP (fun b=> ?_)|refine Cu ?_|apply Cw|refine Cy ?_|refine CH ?_|refine CC ?_|apply CB)
    exact⟨rfl,j+1,CX (by repeat first|exact Sub.nil _|refine Sub.cons rfl ?_),by omega,by omega⟩
  · have e:j=many:=by omega
    subst e
    repeat' (first|apply Cv|refine Ct 0 Cr Ag ?_|refine CY 2 Cr Aj Ab ?_|refine Cu ?_|apply Cw|refine Cy ?_|refine CF ?_|apply Cz|refine C1 ?_)
    refine CS (CD (Cx rfl)) ?_
    rfl
theorem Na(J:CA)(b:Option Addr)(n c:Nat)(zs:List Int)(cl:Int) [Sl J b (zs.map i64)](h1:zs.length=n)(DO:n≤9223372036854775807):
    Dw Tryz.prog 60 [.slice b n c,i64 cl] [J] (.bool (!zs.any (RE cl))):=by
  refine CL Tryz.func60 rfl (Nat.le_of_ble_eq_true rfl) fun F=> ?_
  repeat' (first|apply Cv|refine Ct 0 Cr Au ?_|refine Cu ?_|apply Cw|refine Cy ?_|refine CC ?_)
  refine C4 (fun j:Nat=> [(0,.slice b n c),(1,i64 cl),(5,i64 (j:Int))])
    (fun _=> [J]) (fun j=>j≤n/\∀y∈zs.take j,RE cl y=false) (fun j=>n - j) 0 (by repeat first|exact Sub.nil _|refine Sub.cons rfl ?_) ⟨Nat.zero_le _,by simp⟩ ?_
  rintro j ⟨LV,FF⟩;by_cases hj:j<n
  · obtain⟨x,hx⟩:∃z,zs[j]?=some z:=⟨_,List.getElem?_eq_getElem Ab⟩;have hcx:(zs.map i64)[((j:Nat):Int).toNat*1]?=some (i64 x):=by simp [hx]
    by_cases hp:0≤x/\x≤cl
    · obtain⟨gd,av⟩:=hp
      repeat' (first|apply Cv|refine Ct 0 Cr Az ?_|refine Ct 1 Cr Ao ?_|refine CO 2 Cr AH Ab ?_|refine CY 2 Cr AH Ab ?_|refine Ct 3 Cr AK ?_|refine Ct 4 Cr Ae ?_|refine Cu ?_|apply Cw|refine Cy ?_|refine CH ?_|refine CF ?_|refine CC ?_|apply CB)
      exact⟨rfl,j+1,CX (by repeat first|exact Sub.nil _|refine Sub.cons rfl ?_),⟨by omega,IV FF hx (by simp [RE,wi,gd,av])⟩,by omega⟩
    · have ha:zs.any (RE cl)=true:=List.any_eq_true.2 ⟨x,List.mem_of_getElem? hx,by simp [RE,wi];omega⟩
      repeat' (first|apply Cv|refine Ct 0 Cr Ay ?_|refine CG 0 Cs ?_|refine CG 2 Cs ?_|refine CO 2 Cr AH Ab ?_|refine G5 2 Cr Aj (fun h=> ?_) (fun h=> ?_)|refine Ct 3 Cr AK ?_|refine CG 3 Cs ?_|refine Ct 4 Cr Ae ?_|refine Cu ?_|apply Cw|refine Cy ?_|refine CH ?_|refine CC ?_|apply Cz|apply CB|refine CQ ?_|refine C3 ?_)
      · refine CS (CD (Cx rfl)) ?_;rw [ha];rfl
      · refine CS (CD (Cx rfl)) ?_;rw [ha];rfl
  · repeat' (first|apply Cv|refine Ct 0 Cr Ag ?_|refine CY 2 Cr Aj Ab ?_|refine Ct 4 Cr Ae ?_|refine Cu ?_|apply Cw|refine Cy ?_|refine CF ?_|apply Cz|refine C1 ?_)
    refine CS (CD (Cx rfl)) ?_;rw [List.take_of_length_le Ab] at FF
    rw [show zs.any (RE cl)=false from List.any_eq_false.2 fun x hx=>by simp [FF x hx]];rfl
def lB(cl:Int)(f:List Int):Prop:=f.length≤8/\f.any (RE cl)=false
def fC(cl:Int)(m:Me):Prop:=(m.params.length:Int)≤m.lo/\m.lo≤16/\0≤m.st/\m.st≤32/\1≤m.code.length/\m.code.length≤256/\m.params.any (RE cl)=false
def lA(cl:Int)(m:Me):Prop:=fC cl m/\m.code.any LS=false
theorem V2{cl:Int}{f:List Int}:Ou cl f=false↔lB cl f:=by
  unfold Ou Hh lB;rw [Bool.not_eq_false',Bool.and_eq_true,Bool.not_eq_true',decide_eq_true_eq];constructor
  · rintro⟨h1,h2⟩;exact⟨by omega,h2⟩
  · rintro⟨h1,h2⟩;exact⟨by omega,h2⟩
theorem Qc{cl:Int}{m:Me}:Nl cl m=false↔lA cl m:=by
  unfold Nl GP Hh lA fC wi;rw [Bool.not_eq_false'];simp only [Bool.and_eq_true,Bool.not_eq_true',decide_eq_true_eq];constructor
  · rintro⟨⟨h1,h2⟩,⟨h3,h4⟩,⟨h5,h6⟩,⟨h7,h8⟩,h9⟩;exact⟨⟨h3,h4,h5,h6,by omega,by omega,h2⟩,h9⟩
  · rintro⟨⟨h3,h4,h5,h6,h7,h8,h2⟩,h9⟩;exact⟨⟨by omega,h2⟩,⟨h3,h4⟩,⟨h5,h6⟩,⟨by omega,by omega⟩,h9⟩
theorem I9{x:Im}:JK x=true↔x.cls.length≤16/\1≤x.ms.length/\x.ms.length≤32/\(∀m,x.ms[0]?=some m->m.params.length=0)/\(∀f∈x.cls,lB x.cls.length f)/\∀m∈x.ms,lA x.cls.length m:=by
  unfold JK;simp only [Bool.and_eq_true,decide_eq_true_eq,Bool.not_eq_true'];have ec:x.cls.any (Ou x.cls.length)=false↔∀f∈x.cls,lB x.cls.length f:=by
    rw [List.any_eq_false];exact⟨fun h f hf=>V2.1 (by simpa using h f hf),fun h f hf=>by rw [V2.2 (h f hf)];simp⟩
  have em:x.ms.any (Nl x.cls.length)=false↔∀m∈x.ms,lA x.cls.length m:=by
    rw [List.any_eq_false];exact⟨fun h f hf=>Qc.1 (by simpa using h f hf),fun h f hf=>by rw [Qc.2 (h f hf)];simp⟩
  rw [ec,em];unfold wi;simp only [decide_eq_true_eq];constructor
  · rintro⟨h1,⟨h2,h3⟩,h4,h5,h6⟩;refine⟨by omega,by omega,by omega,fun m hm=> ?_,h5,h6⟩;rw [hm] at h4
    simp only [GP,Hh,Bool.and_eq_true,decide_eq_true_eq] at h4
    have:=h4.1.1;omega
  · rintro⟨h1,h2,h3,h4,h5,h6⟩;refine⟨by omega,⟨by omega,by omega⟩,?_,h5,h6⟩;obtain⟨m,hm⟩:∃z,x.ms[0]?=some z:=⟨_,List.getElem?_eq_getElem Ab⟩;have g1:=h4 m hm;have g2:=Qc.2 (h6 m (List.mem_of_getElem? hm));rw [hm];simp only;unfold Nl GP at g2
    unfold GP;rw [Bool.not_eq_false'] at g2
    simp only [Bool.and_eq_true] at g2 ⊢
    refine⟨?_,g2.2⟩;have:=g2.1;unfold Hh at this ⊢
    simp only [Bool.and_eq_true,decide_eq_true_eq] at this ⊢
    exact⟨by omega,this.2⟩
end Go.Proofs.YtcnmnmjmpocepaaGreatDoor.Cd
end
section
namespace Go.Proofs.YtcnmnmjmpocepaaGreatDoor.Cd
open Go.SL
attribute [local irreducible] SL.T Dw DG DE DI Et D0
theorem X8{α:Type}{p:α->Prop}{l:List α}{j:Nat}{x:α}(h1:∀y∈l.take j,p y)(h2:l[j]?=some x)(h3:p x):∀y∈l.take (j+1),p y:=by
  intro y hy;rw [List.take_add_one,h2] at hy
  rcases List.mem_append.1 hy with hy|hy
  · exact h1 y hy
  · simp at hy;subst hy;exact h3
theorem W1 (J : CA) (x:Im)(v:Value)(h:IU J x v):Dw Tryz.prog 28 [v] [J] (.bool (JK x)):=by
  obtain⟨Du,Dr,DP,mb,mn,mc,rfl,hc,hm, -, -⟩:=h;obtain⟨cv,sc,jU,Jt,l5,iL⟩:=hc;obtain⟨mv,lg,gl,Pr,lW,gm⟩:=hm;haveI:=sc;haveI:=lg;have Sx:∀ {P:Prop},¬P->(JK x=true->P)->JK x=false:=fun h1 h2=>by
    cases e:JK x with
    |false=>rfl
    |true=>exact absurd (h2 e) h1
  refine CL Tryz.func28 rfl (Nat.le_of_ble_eq_true rfl) fun F=> ?_
  by_cases hx:Dr≤16/\1≤mn/\mn≤32
  · obtain ⟨h1, h2, h3⟩ :=hx;obtain⟨m,Sy⟩:∃z,x.ms[0]?=some z:=⟨_,List.getElem?_eq_getElem Ab⟩;obtain⟨pb,pn,pc,cb,cn,cc,g1,g2,g3,g4,g5,g6,g7,g8,g9,g10,g11⟩:=gm 0 m Sy;have hk:(0:Int).toNat*4<mv.length:=by simp;omega
    have hc0:mv[(0:Int).toNat*4]?=some (.slice pb pn pc):=by simpa using g1
    have hc00:mv[(0:Int).toNat*4+0]?=some (.slice pb pn pc):=by simpa using g1
    by_cases h4:pn=0
    · have h4' : ∀ m, x.ms[0]?=some m->m.params.length=0:=fun m' O5=>by rw [Sy] at O5;cases O5;omega
      repeat' (first|apply Cv|refine Ct 0 Cr Az ?_|refine CY 2 Cr AH Ab ?_|refine Ct 3 Cr AL ?_|refine Ct 4 Cr Ae ?_|refine C2 (fun β=> ?_)|refine Cu ?_|apply Cw|refine Cy ?_|refine CF ?_|refine CC ?_|apply CB)
      revert β
      intro KJ;refine C4 (fun j:Nat=> [(1,ptr KJ),(3,i64 (Dr:Int)),(4,i64 (j:Int))])
        (fun _=> [CV KJ (.cells ⟨[.slice Du Dr DP,.slice mb mn mc]⟩ 32 (0,0)),J]) (fun j=>j≤Dr/\∀f∈x.cls.take j,lB Dr f) (fun j=>Dr - j) 0 (by repeat first|exact Sub.nil _|refine Sub.cons rfl ?_) ⟨Nat.zero_le _,by simp⟩ ?_
      rintro j ⟨LV,FF⟩;by_cases hj:j<Dr
      · obtain⟨f,hf⟩:∃z,x.cls[j]?=some z:=⟨_,List.getElem?_eq_getElem Ab⟩;obtain⟨fb,fn,fc,q1,q2,q3,q4⟩:=iL j f hf;haveI:=q2;have hkc:((j:Nat):Int).toNat*1<cv.length:=by simp;omega
        have hcx:cv[((j:Nat):Int).toNat*1]?=some (.slice fb fn fc):=by simpa using q1
        have hcx0:cv[((j:Nat):Int).toNat*1+0]?=some (.slice fb fn fc):=by simpa using q1
        have hk:=Na J fb fn fc f Dr q3 q4;have hmem:=List.mem_of_getElem? hf;by_cases h8:fn≤8
        · cases ha:f.any (RE Dr) with
          | false=>
            rw [ha] at hk
            repeat' (first|apply Cv|refine Ct 0 Cr AO ?_|refine Ct 1 Cr Ao ?_|refine CO 2 Cr AH Ab ?_|refine CY 2 Cr AQ Ab ?_|refine Ct 3 Cr AL ?_|refine Ct 4 Cr Ae ?_|refine Ct 4 Cr (CE rfl rfl rfl rfl rfl (hk)) ?_|refine Cu ?_|apply Cw|refine Cy ?_|refine CH ?_|refine CF ?_|refine CC ?_|apply CB)
            exact⟨rfl,j+1,CX (by repeat first|exact Sub.nil _|refine Sub.cons rfl ?_),⟨by omega,X8 FF hf ⟨by omega,ha⟩⟩,by omega⟩
          | true=>
            rw [ha] at hk
            have e:=Sx (P:=f.any (RE Dr)=false) (by rw [ha];simp) fun e=>by rw [<-Jt];exact((I9.1 e).2.2.2.2.1 f hmem).2
            repeat' (first|apply Cv|refine Ct 0 Cr Bq ?_|refine CO 2 Cr AH Ab ?_|refine CY 2 Cr AQ Ab ?_|refine Ct 3 Cr AL ?_|refine Ct 4 Cr Ae ?_|refine Ct 4 Cr (CE rfl rfl rfl rfl rfl (hk)) ?_|refine Cu ?_|apply Cw|refine Cy ?_|refine CH ?_|refine CC ?_|apply Cz|apply CB|refine CQ ?_|refine C3 ?_)
            refine CS (CD (Cx rfl)) ?_;rw [e]
        · have e:=Sx (P:=fn≤8) h8 fun e=>by rw [<-q3];exact((I9.1 e).2.2.2.2.1 f hmem).1
          repeat' (first|apply Cv|refine Ct 0 Cr Aw ?_|refine CG 0 Cs ?_|refine CO 2 Cr AH Ab ?_|refine Ct 3 Cr AL ?_|refine CG 3 Cs ?_|refine CG 4 Cs ?_|refine Ct 4 Cr Ae ?_|refine Cu ?_|apply Cw|refine Cy ?_|refine CH ?_|refine CC ?_|apply Cz|apply CB|refine CQ ?_|refine C3 ?_)
          refine CS (CD (Cx rfl)) ?_;rw [e]
      · obtain rfl : Dr = j:=by omega
        rw [List.take_of_length_le Ab] at FF
        repeat' (first|apply Cv|refine Ct 0 Cr Ag ?_|refine CY 2 Cr Aj Ab ?_|refine Cu ?_|apply Cw|refine Cy ?_|refine CF ?_|refine CC ?_|refine C1 ?_)
        refine C4 (fun j:Nat=> [(1,ptr KJ),(3,i64 (Dr:Int)),(5,i64 (j:Int))])
          (fun _=> [CV KJ (.cells ⟨[.slice Du Dr DP,.slice mb mn mc]⟩ 32 (0,0)),J]) (fun j=>j≤mn/\∀m∈x.ms.take j,lA Dr m) (fun j=>mn - j) 0 (by repeat first|exact Sub.nil _|refine Sub.cons rfl ?_) ⟨Nat.zero_le _,by simp⟩ ?_
        rintro i ⟨NQ,LW⟩;by_cases hi:i<mn
        · obtain ⟨m', O5⟩ :∃z,x.ms[i]?=some z:=⟨_,List.getElem?_eq_getElem Ab⟩;obtain⟨lv,nQ,lu,nB,mx,iQ,q1,q2,q3,q4,q5,q6,q7,q8,q9,qZ,qY⟩:=gm i m' O5;haveI:=q5;haveI:=q8;have MU:((i:Nat):Int).toNat*4<mv.length:=by simp;omega
          have c8:mv[((i:Nat):Int).toNat*4]?=some (.slice lv nQ lu):=by simpa using q1
          have jT:mv[((i:Nat):Int).toNat*4+1]?=some (i64 m'.lo):=by simpa using q2
          have T0:mv[((i:Nat):Int).toNat*4+2]?=some (i64 m'.st):=by simpa using q3
          have hd3:mv[((i:Nat):Int).toNat*4+3]?=some (.slice nB mx iQ):=by simpa using q4
          have hk:=Na J lv nQ lu m'.params Dr q6 q7;have hmem:=List.mem_of_getElem? O5;have hfl:=Dc m'.code;have hE1:m'.code.any LS=true->JK x=false:=fun h=>Sx (P:=m'.code.any LS=false) (by rw [h];simp) fun e=>by rw [<-Jt] at *;exact((I9.1 e).2.2.2.2.2 m' hmem).2
          have hE2:¬fC Dr m'->JK x=false:=fun h=>Sx h fun e=>by rw [<-Jt];exact((I9.1 e).2.2.2.2.2 m' hmem).1
          clear Sx iL gm Sy h4' FF g1 g2 g3 g4 g5 g6 g7 g8 g9 g10 g11 hc0 hc00 q1 q2 q3 q4 jU hmem h4
          repeat' ((fail_if_success (refine Ep 13 ?_));(first|apply Cv|refine Ct 0 Cr Ap ?_|refine CO 2 Cr Aj Ab ?_|refine Ct 3 Cr AZ ?_|refine Ct 4 Cr Ae ?_|refine CT (fun β=> ?_)|refine CN ?_|refine Cu ?_|apply Cw|refine Cy ?_|refine CH ?_|refine CC ?_|apply CB))
          revert β
          intro FT;clear MU c8 jT T0 hd3 gl;by_cases Ht:fC Dr m'
          · obtain⟨r1,r2,r3,r4,r5,r6,r7⟩:=id Ht;rw [r7] at hk
            repeat' (first|apply Cv|refine Ct 0 Cr AO ?_|refine CY 2 Cr AH Ab ?_|refine Ct 3 Cr Af ?_|refine Ct 4 Cr Ae ?_|refine Ct 4 Cr (CE rfl rfl rfl rfl rfl (hk)) ?_|refine Cu ?_|apply Cw|refine Cy ?_|refine CF ?_|refine CC ?_|apply CB)
            refine C4 (fun k:Nat=> [(1,ptr KJ),(3,i64 (Dr:Int)),(5,i64 (i:Int)),(6,ptr FT),(7,i64 (k:Int))])
              (fun _=> [CV FT (.cells ⟨[.slice lv nQ lu,i64 m'.lo,i64 m'.st,.slice nB mx iQ]⟩ 66 (0,0)),CV KJ (.cells ⟨[.slice Du Dr DP,.slice mb mn mc]⟩ 32 (0,0)),J]) (fun k=>k≤mx/\∀y∈m'.code.take k,LS y=false) (fun k=>mx - k) 0 (by repeat first|exact Sub.nil _|refine Sub.cons rfl ?_) ⟨Nat.zero_le _,by simp⟩ ?_
            rintro k ⟨Sz,hk2'⟩;by_cases hkk:k<mx
            · obtain⟨y,hy⟩:∃z,m'.code[k]?=some z:=⟨_,List.getElem?_eq_getElem Ab⟩;obtain⟨w0,w1,w2⟩:=D9 hy;have hk3:((k:Nat):Int).toNat*3<(CZ m'.code).length:=by simp;omega
              have hw0:(CZ m'.code)[((k:Nat):Int).toNat*3]?=some (i64 y.op):=by simpa using w0
              have hw00:(CZ m'.code)[((k:Nat):Int).toNat*3+0]?=some (i64 y.op):=by simpa using w0
              by_cases ho:0≤y.op/\y.op≤255
              · obtain⟨kL,jL⟩:=ho
                repeat' (first|apply Cv|refine Ct 0 Cr Az ?_|refine Ct 1 Cr Ao ?_|refine CO 2 Cr AH Ab ?_|refine CY 2 Cr AH Ab ?_|refine Ct 3 Cr AL ?_|refine Ct 4 Cr Ae ?_|refine Cu ?_|apply Cw|refine Cy ?_|refine CH ?_|refine CF ?_|refine CC ?_|apply CB)
                exact⟨rfl,k+1,CX (by repeat first|exact Sub.nil _|refine Sub.cons rfl ?_),⟨by omega,IV hk2' hy (by simp [LS,wi,kL,jL])⟩,by omega⟩
              · have e:=hE1 (List.any_eq_true.2 ⟨y,List.mem_of_getElem? hy,by simp [LS,wi];omega⟩);clear hE1 hE2 LW Ht O5 hy;rcases(by omega:y.op<0∨(0≤y.op/\255<y.op)) with nh|⟨nh,jL⟩
                · repeat' (first|apply Cv|refine Ct 0 Cr Aw ?_|refine CG 0 Cs ?_|refine CG 2 Cs ?_|refine CO 2 Cr Aj Ab ?_|refine Ct 3 Cr AL ?_|refine CG 3 Cs ?_|refine Ct 4 Cr Ae ?_|refine Cu ?_|apply Cw|refine Cy ?_|refine CH ?_|refine CC ?_|apply Cz|apply CB|refine CQ ?_|refine C3 ?_)
                  refine CS (CD (Cx rfl)) ?_;rw [e]
                · repeat' (first|apply Cv|refine Ct 0 Cr Az ?_|refine CO 2 Cr AH Ab ?_|refine CY 2 Cr Aj Ab ?_|refine Ct 3 Cr AL ?_|refine Ct 4 Cr Ae ?_|refine Cu ?_|apply Cw|refine Cy ?_|refine CH ?_|refine CC ?_|apply Cz|apply CB|refine CQ ?_|refine C3 ?_)
                  refine CS (CD (Cx rfl)) ?_;rw [e]
            · rw [List.take_of_length_le Ab] at hk2'
              repeat' (first|apply Cv|refine Ct 0 Cr Ag ?_|refine Ct 1 Cr Ao ?_|refine CY 2 Cr Aj Ab ?_|refine Ct 3 Cr Af ?_|refine Ct 4 Cr Ae ?_|refine Cu ?_|apply Cw|refine Cy ?_|refine CF ?_|refine C1 ?_)
              exact⟨rfl,i+1,CX (by repeat first|exact Sub.nil _|refine Sub.cons rfl ?_),⟨by omega,X8 LW O5 ⟨Ht,List.any_eq_false.2 fun y hy=>by simp [hk2' y hy]⟩⟩,by omega⟩
          · have e := hE2 Ht;clear LW hE1 hE2 O5 h1 h2 h3 NQ LV hj;by_cases r1:(m'.params.length:Int)≤m'.lo
            · skip
              by_cases r2:m'.lo≤16
              · skip
                by_cases r3:0≤m'.st
                · skip
                  by_cases r4:m'.st≤32
                  · skip
                    by_cases r5:1≤m'.code.length
                    · skip
                      by_cases r6:m'.code.length≤256
                      · skip
                        have r7:m'.params.any (RE Dr)=true:=by
                          cases ha:m'.params.any (RE Dr) with
                          |true=>rfl
                          |false=>exact absurd ⟨r1,r2,r3,r4,r5,r6,ha⟩ Ht
                        rw [r7] at hk
                        clear Ht
                        repeat' (first|apply Cv|refine Ct 0 Cr Bq ?_|refine CY 2 Cr AH Ab ?_|refine Ct 3 Cr Af ?_|refine Ct 4 Cr Ae ?_|refine Ct 4 Cr (CE rfl rfl rfl rfl rfl (hk)) ?_|refine Cu ?_|apply Cw|refine Cy ?_|refine CH ?_|apply Cz|refine CQ ?_|refine C3 ?_)
                        refine CS (CD (Cx rfl)) ?_;rw [e]
                      · clear Ht hk
                        repeat' (first|apply Cv|refine Ct 0 Cr Ay ?_|refine CG 0 Cs ?_|refine CO 2 Cr AH Ab ?_|refine CY 2 Cr AH Ab ?_|refine Ct 3 Cr Af ?_|refine CG 3 Cs ?_|refine CG 4 Cs ?_|refine Ct 4 Cr Ae ?_|refine Cu ?_|apply Cw|refine Cy ?_|refine CH ?_|apply Cz|refine CQ ?_|refine C3 ?_)
                        refine CS (CD (Cx rfl)) ?_;rw [e]
                    · clear Ht hk
                      repeat' (first|apply Cv|refine Ct 0 Cr Ay ?_|refine CG 0 Cs ?_|refine CG 2 Cs ?_|refine CO 2 Cr AH Ab ?_|refine CY 2 Cr AH Ab ?_|refine Ct 3 Cr Af ?_|refine CG 3 Cs ?_|refine CG 4 Cs ?_|refine Ct 4 Cr Ae ?_|refine Cu ?_|apply Cw|refine Cy ?_|refine CH ?_|apply Cz|refine CQ ?_|refine C3 ?_)
                      refine CS (CD (Cx rfl)) ?_;rw [e]
                  · clear Ht hk
                    repeat' (first|apply Cv|refine Ct 0 Cr Ay ?_|refine CG 0 Cs ?_|refine CG 2 Cs ?_|refine CO 2 Cr AH Ab ?_|refine CY 2 Cr AH Ab ?_|refine Ct 3 Cr Af ?_|refine CG 3 Cs ?_|refine CG 4 Cs ?_|refine Ct 4 Cr Ae ?_|refine Cu ?_|apply Cw|refine Cy ?_|refine CH ?_|apply Cz|refine CQ ?_|refine C3 ?_)
                    refine CS (CD (Cx rfl)) ?_;rw [e]
                · clear Ht hk
                  repeat' (first|apply Cv|refine Ct 0 Cr Ay ?_|refine CG 0 Cs ?_|refine CG 2 Cs ?_|refine CO 2 Cr AH Ab ?_|refine CY 2 Cr AH Ab ?_|refine Ct 3 Cr Af ?_|refine CG 3 Cs ?_|refine CG 4 Cs ?_|refine Ct 4 Cr Ae ?_|refine Cu ?_|apply Cw|refine Cy ?_|refine CH ?_|apply Cz|refine CQ ?_|refine C3 ?_)
                  refine CS (CD (Cx rfl)) ?_;rw [e]
              · clear Ht hk
                repeat' (first|apply Cv|refine Ct 0 Cr Ay ?_|refine CG 0 Cs ?_|refine CG 2 Cs ?_|refine CO 2 Cr AH Ab ?_|refine CY 2 Cr Aj Ab ?_|refine Ct 3 Cr Af ?_|refine CG 3 Cs ?_|refine CG 4 Cs ?_|refine Ct 4 Cr Ae ?_|refine Cu ?_|apply Cw|refine Cy ?_|refine CH ?_|apply Cz|refine CQ ?_|refine C3 ?_)
                refine CS (CD (Cx rfl)) ?_;rw [e]
            · clear Ht hk
              repeat' (first|apply Cv|refine Ct 0 Cr Aw ?_|refine CG 0 Cs ?_|refine CG 2 Cs ?_|refine CO 2 Cr Aj Ab ?_|refine Ct 3 Cr Af ?_|refine CG 3 Cs ?_|refine CG 4 Cs ?_|refine Ct 4 Cr Ae ?_|refine Cu ?_|apply Cw|refine Cy ?_|refine CH ?_|apply Cz|refine CQ ?_|refine C3 ?_)
              refine CS (CD (Cx rfl)) ?_;rw [e]
        · rw [List.take_of_length_le Ab] at LW
          repeat' (first|apply Cv|refine Ct 0 Cr Ag ?_|refine CY 2 Cr Aj Ab ?_|refine Ct 3 Cr Af ?_|refine Ct 4 Cr Ae ?_|refine Cu ?_|apply Cw|refine Cy ?_|refine CF ?_|apply Cz|refine C1 ?_)
          refine CS (CD (Cx rfl)) ?_;rw [I9.2 ⟨by omega,by omega,by omega,h4',by rw [Jt];exact FF,by rw [Jt];exact LW⟩]
    · have e:=Sx h4 fun e=>by rw [<-g6];exact(I9.1 e).2.2.2.1 m Sy
      repeat' (first|apply Cv|refine Ct 0 Cr Az ?_|refine CO 2 Cr AH Ab ?_|refine CY 2 Cr AH Ab ?_|refine Ct 3 Cr AL ?_|refine Ct 4 Cr Ae ?_|refine C2 (fun β=> ?_)|refine Cu ?_|apply Cw|refine Cy ?_|refine CH ?_|apply Cz|refine CQ ?_)
      refine CS (CD (Cx rfl)) ?_;rw [e]
  · have e:=Sx hx fun e=>by obtain⟨a,b,c, -⟩:=I9.1 e;omega
    clear Sx iL gm;by_cases h1:Dr≤16
    · by_cases h2:1≤mn
      · have h3:¬mn≤32:=fun h=>hx ⟨h1,h2,h⟩
        clear hx
        repeat' (first|apply Cv|refine Ct 0 Cr Ay ?_|refine CG 2 Cs ?_|refine CO 2 Cr AH Ab ?_|refine CY 2 Cr AH Ab ?_|refine Ct 3 Cr Af ?_|refine CG 3 Cs ?_|refine CG 4 Cs ?_|refine Ct 4 Cr Ae ?_|refine C2 (fun β=> ?_)|refine Cu ?_|apply Cw|refine Cy ?_|refine CH ?_|apply Cz|refine CQ ?_)
        refine CS (CD (Cx rfl)) ?_;rw [e]
      · clear hx
        repeat' (first|apply Cv|refine Ct 0 Cr Ay ?_|refine CG 2 Cs ?_|refine CO 2 Cr AH Ab ?_|refine CY 2 Cr AQ Ab ?_|refine Ct 3 Cr Af ?_|refine CG 3 Cs ?_|refine CG 4 Cs ?_|refine Ct 4 Cr Ae ?_|refine C2 (fun β=> ?_)|refine Cu ?_|apply Cw|refine Cy ?_|refine CH ?_|apply Cz|refine CQ ?_)
        refine CS (CD (Cx rfl)) ?_;rw [e]
    · clear hx
      repeat' (first|apply Cv|refine Ct 0 Cr Aw ?_|refine CG 2 Cs ?_|refine CO 2 Cr AQ Ab ?_|refine Ct 3 Cr Af ?_|refine CG 3 Cs ?_|refine CG 4 Cs ?_|refine Ct 4 Cr Ae ?_|refine C2 (fun β=> ?_)|refine Cu ?_|apply Cw|refine Cy ?_|refine CH ?_|apply Cz|refine CQ ?_)
      refine CS (CD (Cx rfl)) ?_;rw [e]
end Go.Proofs.YtcnmnmjmpocepaaGreatDoor.Cd
end
