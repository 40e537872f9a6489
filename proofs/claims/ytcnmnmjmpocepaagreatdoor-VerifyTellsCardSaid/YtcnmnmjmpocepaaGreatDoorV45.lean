
import Derived.Test.YtcnmnmjmpocepaaGreatDoorV00
import Derived.Test.YtcnmnmjmpocepaaGreatDoorV09
import Derived.Test.YtcnmnmjmpocepaaGreatDoorV44
set_option linter.unusedVariables false
set_option linter.unusedSimpArgs false
set_option linter.unusedSectionVars false
set_option maxRecDepth 100000
set_option maxHeartbeats 16000000
namespace Go.Proofs.YtcnmnmjmpocepaaGreatDoor.Cd
open Go.SL
attribute [local irreducible] SL.T Dw DG DE DI Et D0
structure SB where
  j:Nat
  s:List UInt8
theorem Rq (J:CA)(x:Im)(v:Value)(h:IU J x v):Dw Tryz.prog 9 [v] [J] (if JK x then .tuple ⟨[str (Sp x),i64 0]⟩ else .tuple ⟨[str [],i64 12]⟩):=by
  have hmay:=W1 J x v h;obtain⟨Du,Dr,DP,mb,mn,mc,rfl,hc,hm, -, -⟩:=h;cases hb:JK x with
  | false=>
    rw [hb] at hmay
    refine CL Tryz.func9 rfl (Nat.le_of_ble_eq_true rfl) fun F=> ?_
    repeat' (first|apply Cv|refine Ct 0 Cr B7 ?_|refine Ct 3 Cr AA ?_|refine Ct 4 Cr (CE rfl rfl rfl rfl rfl (hmay)) ?_|refine C2 (fun β=> ?_)|refine Cu ?_|apply Cw|refine Cy ?_|refine CH ?_|apply Cz|refine CQ ?_)
    refine CS (CU (Cx rfl) (Cx rfl)) ?_
    rfl
  | true=>
    rw [hb] at hmay
    have sm:=MZ hb;obtain⟨cv,sc,jU,Jt,l5,iL⟩:=hc;obtain⟨mv,lg,gl,Pr,lW,gm⟩:=hm;haveI:=sc;haveI:=lg;have hcv:∀n,Value.int .u64 (IntKind.u64.wrap n)= .int .u64 (G1 n:Int):=fun n=>by rw [WG]
    have hlb:=Em;refine CL Tryz.func9 rfl (Nat.le_of_ble_eq_true rfl) fun F=> ?_
    repeat' (first|refine CW rfl rfl rfl ((C8 rfl rfl).to (hcv _)) ?_|refine CW rfl rfl rfl (HJ rfl rfl rfl (by simp only [hlb,List.length_append,List.length_cons,List.length_nil];omega)) ?_|apply Cv|refine Ct 0 Cr B8 ?_|refine Ct 3 Cr AE ?_|refine Ct 4 Cr Ae ?_|refine Ct 4 Cr (CE rfl rfl rfl rfl rfl (hmay)) ?_|refine Ct 4 Cr (CE rfl rfl rfl rfl rfl (FM _ 1 (I0 _) Ah)) ?_|refine C2 (fun β=> ?_)|refine Cu ?_|apply Cw|refine Cy ?_|refine CF ?_|refine CC ?_|apply CB)
    revert β
    intro KJ;clear hmay;refine C4 (fun s:SB=> [(1,ptr KJ),(4,str s.s),(5,i64 (s.j:Int))])
      (fun s=> [CV KJ (.cells ⟨[.slice Du Dr DP,.slice mb mn mc]⟩ 32 (0,0)),J])
      (fun s=>s.j≤Dr/\s.s= [68,75,1]++(G9 (G1 Dr) 1++((x.cls.take s.j).map kB).flatten))
      (fun s=>Dr - s.j) ⟨0,[68,75,1]++G9 (G1 Dr) 1⟩ (by repeat first|exact Sub.nil _|refine Sub.cons rfl ?_) ⟨Nat.zero_le _,by simp⟩ ?_
    rintro⟨j,s⟩ ⟨hj,hs⟩;dsimp only at hj hs ⊢
    have hjb:=sm.gJ j;have hc16:=sm.cls;have hm32:=sm.ms;have hlen:s.length≤200:=by
      rw [hs];simp only [List.length_append,hlb,List.length_cons,List.length_nil];omega
    clear hjb;by_cases FF:j<Dr
    · obtain⟨f,hf⟩:∃z,x.cls[j]?=some z:=⟨_,List.getElem?_eq_getElem Ab⟩;obtain⟨fb,fn,fc,g1,g2,g3,g4⟩:=iL j f hf;haveI:=g2;have hfl:=sm.cl f (List.mem_of_getElem? hf);have hk:((j:Nat):Int).toNat*1<cv.length:=by simp;omega
      have hcx:cv[((j:Nat):Int).toNat*1]?=some (.slice fb fn fc):=by simpa using g1
      have hcx0:cv[((j:Nat):Int).toNat*1+0]?=some (.slice fb fn fc):=by simpa using g1
      repeat' (first|refine CW rfl rfl rfl ((C8 rfl rfl).to (hcv _)) ?_|refine CW rfl rfl rfl (HJ rfl rfl rfl (by simp only [hlb,List.length_append,List.length_cons,List.length_nil];omega)) ?_|apply Cv|refine Ct 0 Cr Ag ?_|refine CO 2 Cr Aj Ab ?_|refine Ct 3 Cr AL ?_|refine Ct 4 Cr Ae ?_|refine Ct 4 Cr (CE rfl rfl rfl rfl rfl (FM _ 1 (I0 _) Ah)) ?_|refine Cu ?_|apply Cw|refine Cy ?_|refine CH ?_|refine CC ?_|apply CB)
      refine C4 (fun t:SB=> [(1,ptr KJ),(4,str t.s),(5,i64 (j:Int)),(6,i64 (t.j:Int))])
        (fun t=> [CV KJ (.cells ⟨[.slice Du Dr DP,.slice mb mn mc]⟩ 32 (0,0)),J])
        (fun t=>t.j≤fn/\t.s.length≤300+t.j/\t.s=s++(G9 (G1 fn) 1++((f.take t.j).map fun k=>G9 (G1 k) 1).flatten))
        (fun t=>fn - t.j) ⟨0,s++G9 (G1 fn) 1⟩ (by repeat first|exact Sub.nil _|refine Sub.cons rfl ?_) ⟨Nat.zero_le _,by simp only [List.length_append,hlb];omega,by simp⟩ ?_
      rintro⟨k,t⟩ ⟨Sz,MU,ht⟩;dsimp only at Sz MU ht ⊢
      by_cases hkk:k<fn
      · obtain⟨z,hz⟩:∃z,f[k]?=some z:=⟨_,List.getElem?_eq_getElem Ab⟩;have hcz:(f.map i64)[((k:Nat):Int).toNat*1]?=some (i64 z):=by simp [hz]
        repeat' (first|refine CW rfl rfl rfl ((C8 rfl rfl).to (hcv _)) ?_|refine CW rfl rfl rfl (HJ rfl rfl rfl (by simp only [hlb,List.length_append,List.length_cons,List.length_nil];omega)) ?_|apply Cv|refine Ct 0 Cr Ag ?_|refine Ct 1 Cr Ao ?_|refine CO 2 Cr Aj Ab ?_|refine Ct 3 Cr (by first|exact DU rfl Aa rfl Aa|exact Dg rfl rfl|exact C7 rfl rfl rfl Ab Ab Bj|exact Fx rfl rfl Ad|exact D7 rfl Aa Ai Ad) ?_|refine Ct 4 Cr Ae ?_|refine Ct 4 Cr (CE rfl rfl rfl rfl rfl (FM _ 1 (I0 _) Ah)) ?_|refine Cu ?_|apply Cw|refine Cy ?_|refine CH ?_|refine CC ?_|apply CB)
        refine⟨rfl,⟨k+1,t++G9 (G1 z) 1⟩,CX (by repeat first|exact Sub.nil _|refine Sub.cons rfl ?_),⟨by dsimp only;omega,by dsimp only;simp only [List.length_append,hlb];omega,?_⟩,by dsimp only;omega⟩;dsimp only;rw [ht,D8 _ hz];simp only [List.append_assoc]
      · rw [List.take_of_length_le Ab] at ht
        repeat' (first|apply Cv|refine Ct 0 Cr Ag ?_|refine Ct 1 Cr Ao ?_|refine CY 2 Cr Aj Ab ?_|refine Ct 3 Cr AL ?_|refine Ct 4 Cr Ae ?_|refine Cu ?_|apply Cw|refine Cy ?_|refine CF ?_|refine C1 ?_)
        refine⟨rfl,⟨j+1,t⟩,CX (by repeat first|exact Sub.nil _|refine Sub.cons rfl ?_),⟨by dsimp only;omega,?_⟩,by dsimp only;omega⟩;dsimp only;rw [ht,hs,D8 _ hf,kB,g3];simp only [List.append_assoc]
    · obtain rfl:Dr=j:=by omega
      rw [List.take_of_length_le Ab] at hs
      repeat' (first|refine CW rfl rfl rfl ((C8 rfl rfl).to (hcv _)) ?_|refine CW rfl rfl rfl (HJ rfl rfl rfl (by simp only [hlb,List.length_append,List.length_cons,List.length_nil];omega)) ?_|apply Cv|refine Ct 0 Cr Ag ?_|refine CY 2 Cr Aj Ab ?_|refine Ct 3 Cr Af ?_|refine Ct 4 Cr Ae ?_|refine Ct 4 Cr (CE rfl rfl rfl rfl rfl (FM _ 1 (I0 _) Ah)) ?_|refine Cu ?_|apply Cw|refine Cy ?_|refine CF ?_|refine CC ?_|refine C1 ?_)
      refine C4 (fun t:SB=> [(1,ptr KJ),(4,str t.s),(7,i64 (t.j:Int))])
        (fun t=> [CV KJ (.cells ⟨[.slice Du Dr DP,.slice mb mn mc]⟩ 32 (0,0)),J])
        (fun t=>t.j≤mn/\t.s=s++(G9 (G1 mn) 1++((x.ms.take t.j).map mB).flatten))
        (fun t=>mn - t.j) ⟨0,s++G9 (G1 mn) 1⟩ (by repeat first|exact Sub.nil _|refine Sub.cons rfl ?_) ⟨Nat.zero_le _,by simp⟩ ?_
      rintro⟨i,t⟩ ⟨hi,ht⟩;dsimp only at hi ht ⊢
      have hib:=sm.na i;have E6:t.length≤200000:=by
        rw [ht];simp only [List.length_append,hlb];omega
      clear hib;by_cases LW:i<mn
      · obtain⟨m,hm⟩:∃z,x.ms[i]?=some z:=⟨_,List.getElem?_eq_getElem Ab⟩;obtain⟨pb,pn,pc,cb,cn,cc,g1,g2,g3,g4,g5,g6,g7,g8,g9,g10,g11⟩:=gm i m hm;haveI:=g5;haveI:=g8;obtain⟨q1,q2,q3⟩:=sm.me m (List.mem_of_getElem? hm);have hk:((i:Nat):Int).toNat*4<mv.length:=by simp;omega
        have hc0:mv[((i:Nat):Int).toNat*4]?=some (.slice pb pn pc):=by simpa using g1
        have L9:mv[((i:Nat):Int).toNat*4+1]?=some (i64 m.lo):=by simpa using g2
        have L8:mv[((i:Nat):Int).toNat*4+2]?=some (i64 m.st):=by simpa using g3
        have jZ:mv[((i:Nat):Int).toNat*4+3]?=some (.slice cb cn cc):=by simpa using g4
        have hfc:=Dc m.code;clear iL gm hb gl g1 g2 g3 g4 hs hi
        repeat' (first|refine CW rfl rfl rfl ((C8 rfl rfl).to (hcv _)) ?_|refine CW rfl rfl rfl (HJ rfl rfl rfl (by simp only [hlb,List.length_append,List.length_cons,List.length_nil];omega)) ?_|apply Cv|refine Ct 0 Cr Ag ?_|refine CO 2 Cr Aj Ab ?_|refine Ct 3 Cr AZ ?_|refine Ct 4 Cr Ae ?_|refine Ct 4 Cr (CE rfl rfl rfl rfl rfl (FM _ 1 (I0 _) Ah)) ?_|refine CT (fun β=> ?_)|refine CN ?_|refine Cu ?_|apply Cw|refine Cy ?_|refine CH ?_|refine CC ?_|apply CB)
        revert β
        intro FT;refine C4 (fun u:SB=> [(1,ptr KJ),(4,str u.s),(7,i64 (i:Int)),(8,ptr FT),(9,i64 (u.j:Int))])
          (fun u=> [CV FT (.cells ⟨[.slice pb pn pc,i64 m.lo,i64 m.st,.slice cb cn cc]⟩ 66 (0,0)),CV KJ (.cells ⟨[.slice Du Dr DP,.slice mb mn mc]⟩ 32 (0,0)),J])
          (fun u=>u.j≤pn/\u.s.length≤200001+u.j/\u.s=t++(G9 (G1 pn) 1++((m.params.take u.j).map fun k=>G9 (G1 k) 1).flatten))
          (fun u=>pn - u.j) ⟨0,t++G9 (G1 pn) 1⟩ (by repeat first|exact Sub.nil _|refine Sub.cons rfl ?_) ⟨Nat.zero_le _,by simp only [List.length_append,hlb];omega,by simp⟩ ?_
        rintro⟨k,u⟩ ⟨Sz,MU,hu⟩;dsimp only at Sz MU hu ⊢
        by_cases hkk:k<pn
        · obtain⟨z,hz⟩:∃z,m.params[k]?=some z:=⟨_,List.getElem?_eq_getElem Ab⟩;have hcz:(m.params.map i64)[((k:Nat):Int).toNat*1]?=some (i64 z):=by simp [hz]
          repeat' (first|refine CW rfl rfl rfl ((C8 rfl rfl).to (hcv _)) ?_|refine CW rfl rfl rfl (HJ rfl rfl rfl (by simp only [hlb,List.length_append,List.length_cons,List.length_nil];omega)) ?_|apply Cv|refine Ct 0 Cr Ag ?_|refine Ct 1 Cr Ao ?_|refine CO 2 Cr Aj Ab ?_|refine Ct 3 Cr A8 ?_|refine Ct 4 Cr Ae ?_|refine Ct 4 Cr (CE rfl rfl rfl rfl rfl (FM _ 1 (I0 _) Ah)) ?_|refine Cu ?_|apply Cw|refine Cy ?_|refine CH ?_|refine CC ?_|apply CB)
          refine⟨rfl,⟨k+1,u++G9 (G1 z) 1⟩,CX (by repeat first|exact Sub.nil _|refine Sub.cons rfl ?_),⟨by dsimp only;omega,by dsimp only;simp only [List.length_append,hlb];omega,?_⟩,by dsimp only;omega⟩;dsimp only;rw [hu,D8 _ hz];simp only [List.append_assoc]
        · rw [List.take_of_length_le Ab] at hu
          repeat' (first|refine CW rfl rfl rfl ((C8 rfl rfl).to (hcv _)) ?_|refine CW rfl rfl rfl (HJ rfl rfl rfl (by simp only [hlb,List.length_append,List.length_cons,List.length_nil];omega)) ?_|apply Cv|refine Ct 0 Cr Ag ?_|refine CY 2 Cr Aj Ab ?_|refine Ct 3 Cr Af ?_|refine Ct 4 Cr Ae ?_|refine Ct 4 Cr (CE rfl rfl rfl rfl rfl (FM _ 1 (I0 _) Ah)) ?_|refine Ct 4 Cr (CE rfl rfl rfl rfl rfl (FM _ 2 (I0 _) Ah)) ?_|refine Cu ?_|refine De Ac Ac rfl ?_|apply Cw|refine Cy ?_|refine CF ?_|refine CC ?_|refine C1 ?_)
          refine C4 (fun y:SB=> [(1,ptr KJ),(4,str y.s),(7,i64 (i:Int)),(8,ptr FT),(10,i64 (y.j:Int))])
            (fun y=> [CV FT (.cells ⟨[.slice pb pn pc,i64 m.lo,i64 m.st,.slice cb cn cc]⟩ 66 (0,0)),CV KJ (.cells ⟨[.slice Du Dr DP,.slice mb mn mc]⟩ 32 (0,0)),J])
            (fun y=>y.j≤cn/\y.s.length≤200100+17*y.j/\y.s=u++(G9 (G1 m.lo) 1++(G9 (G1 m.st) 1++(G9 (G1 cn) 2++((m.code.take y.j).map iB).flatten))))
            (fun y=>cn - y.j) ⟨0,u++G9 (G1 m.lo) 1++G9 (G1 m.st) 1++G9 (G1 cn) 2⟩ (by repeat first|exact Sub.nil _|refine Sub.cons rfl ?_) ⟨Nat.zero_le _,by simp only [List.length_append,hlb];omega,by simp⟩ ?_
          rintro⟨k2,y⟩ ⟨lO,ar,hyy⟩;dsimp only at lO ar hyy ⊢
          by_cases hkk2:k2<cn
          · obtain⟨ins,gp⟩:∃z,m.code[k2]?=some z:=⟨_,List.getElem?_eq_getElem Ab⟩;obtain⟨w0,w1,w2⟩:=D9 gp;have hk3:((k2:Nat):Int).toNat*3<(CZ m.code).length:=by simp;omega
            have hw0:(CZ m.code)[((k2:Nat):Int).toNat*3]?=some (i64 ins.op):=by simpa using w0
            have hw00:(CZ m.code)[((k2:Nat):Int).toNat*3+0]?=some (i64 ins.op):=by simpa using w0
            have eh:(CZ m.code)[((k2:Nat):Int).toNat*3+1]?=some (i64 ins.a):=by simpa using w1
            have iz:(CZ m.code)[((k2:Nat):Int).toNat*3+2]?=some (i64 ins.b):=by simpa using w2
            repeat' (first|refine CW rfl rfl rfl ((C8 rfl rfl).to (hcv _)) ?_|refine CW rfl rfl rfl (HJ rfl rfl rfl (by simp only [hlb,List.length_append,List.length_cons,List.length_nil];omega)) ?_|apply Cv|refine Ct 0 Cr Ag ?_|refine Ct 1 Cr Ao ?_|refine CO 2 Cr Aj Ab ?_|refine Ct 3 Cr AL ?_|refine Ct 4 Cr Ae ?_|refine Ct 4 Cr (CE rfl rfl rfl rfl rfl (FM _ 1 (I0 _) Ah)) ?_|refine Ct 4 Cr (CE rfl rfl rfl rfl rfl (FM _ 8 (I0 _) Ah)) ?_|refine Cu ?_|refine De Ac Ac rfl ?_|apply Cw|refine Cy ?_|refine CH ?_|refine CC ?_|apply CB)
            refine⟨rfl,⟨k2+1,y++G9 (G1 ins.op) 1++G9 (G1 ins.a) 8++G9 (G1 ins.b) 8⟩,CX (by repeat first|exact Sub.nil _|refine Sub.cons rfl ?_),⟨by dsimp only;omega,by dsimp only;simp only [List.length_append,hlb];omega,?_⟩,by dsimp only;omega⟩;dsimp only;rw [hyy,D8 _ gp,iB];simp only [List.append_assoc]
          · rw [List.take_of_length_le Ab] at hyy
            repeat' (first|apply Cv|refine Ct 0 Cr Ag ?_|refine Ct 1 Cr Ao ?_|refine CY 2 Cr Aj Ab ?_|refine Ct 3 Cr Af ?_|refine Ct 4 Cr Ae ?_|refine Cu ?_|apply Cw|refine Cy ?_|refine CF ?_|refine C1 ?_)
            refine⟨rfl,⟨i+1,y⟩,CX (by repeat first|exact Sub.nil _|refine Sub.cons rfl ?_),⟨by dsimp only;omega,?_⟩,by dsimp only;omega⟩;dsimp only;rw [hyy,hu,ht,D8 _ hm,mB,kB,g6,g9];simp only [List.append_assoc]
      · rw [List.take_of_length_le Ab] at ht
        repeat' (first|apply Cv|refine Ct 0 Cr Ag ?_|refine CY 2 Cr Aj Ab ?_|refine Ct 3 Cr Af ?_|refine Ct 4 Cr Ae ?_|refine Cu ?_|apply Cw|refine Cy ?_|refine CF ?_|apply Cz|refine C1 ?_)
        refine CS (CU (Cx rfl) (Cx rfl)) ?_;rw [if_pos rfl,Sp,ht,hs,Jt,Pr];simp [List.append_assoc]
end Go.Proofs.YtcnmnmjmpocepaaGreatDoor.Cd
