
import Derived.Test.YtcnmnmjmpocepaaGreatDoorV00
import Derived.Test.YtcnmnmjmpocepaaGreatDoorV09
import Derived.Test.YtcnmnmjmpocepaaGreatDoorV17
import Derived.Test.YtcnmnmjmpocepaaGreatDoorV10
import Derived.Test.YtcnmnmjmpocepaaGreatDoorV08
import Derived.Test.YtcnmnmjmpocepaaGreatDoorV18
set_option linter.unusedVariables false
set_option linter.unusedSimpArgs false
set_option linter.unusedSectionVars false
set_option maxRecDepth 100000
set_option maxHeartbeats 16000000
section
namespace Go.Proofs.YtcnmnmjmpocepaaGreatDoor
open Go.SL
open Kd
theorem iq(own:List CA)(x y:Nat)(h:x*y<18446744073709551616)(hx:x<18446744073709551616)(hy:y<18446744073709551616):
    Dw Tryz.prog 76 [.int .u64 x,.int .u64 y] own (.tuple #[.int .u64 0,.int .u64 ((x*y:Nat):Int)]):=fun w X s=>
  (Tryz.bits_Mul x y hx hy w).mono fun e w' ⟨h1,h2⟩=>⟨own,by subst h2;exact s,by rw [h1,Nat.div_eq_of_lt h,Nat.mod_eq_of_lt h];rfl,rfl⟩
theorem jf{d m k:Nat}{v z:Value}(hm:m≤d)(j:Nat)(v':Value)(h:(List.replicate m v)[j]?=some v'):(List.replicate d v++List.replicate k z)[0+j]?=some v':=by
  have hj:j<m:=by simpa using(List.getElem?_eq_some_iff.1 h).1
  rw [Nat.zero_add,List.getElem?_append_left As,List.getElem?_replicate,if_pos Ab];rw [List.getElem?_replicate,if_pos hj] at h
  exact h
theorem fm{n d m:Nat}{v z:Value}:(List.replicate d v++List.replicate (n - d) z).take d++List.replicate m v++(List.replicate d v++List.replicate (n - d) z).drop (d+m*1)=List.replicate (d+m) v++List.replicate (n - (d+m)) z:=by
  rw [List.take_left' Am,Nat.mul_one,List.drop_append,List.drop_eq_nil_of_le Am,List.nil_append,List.length_replicate,List.drop_replicate,List.replicate_append_replicate]
  congr 2
  omega
attribute [local irreducible] SL.T Dw DG DE DI Et D0
theorem fp(Un:Nat)(v:Int)(n:Nat)(h0:0<n)(hn:n≤65536):SL.T Tryz.prog 45 [.slice (some ⟨Un,0,none⟩) 1 1,i64 (n:Int)] [CV Un (.cells ⟨[i64 v]⟩ 79 (0,0))] fun e o=>
    ∃b,e= .returned (.slice (some ⟨b,0,none⟩) n n)/\o= [CV b (.cells ⟨List.replicate n (i64 v)⟩ 79 (0,0)),CV Un (.cells ⟨[i64 v]⟩ 79 (0,0))]:=by
  have h:=iq [] 1 n Ab Ab Ab;rw [Nat.one_mul] at h
  have e1:Value.int .u64 (IntKind.u64.wrap (n:Int))= .int .u64 (n:Int):=by rw [Hm Ab]
  have e2:Value.int .i64 (IntKind.i64.wrap (n:Int))=i64 (n:Int):=by rw [Dz Ab Ab]
  refine CM Tryz.func45 rfl (Nat.le_of_ble_eq_true rfl) fun F=> ?_
  repeat' (first|refine CW rfl rfl rfl ((C8 (ks:= .i64) (kt:= .u64) (a:=(n:Int)) rfl rfl).to e1) ?_|refine CW rfl rfl rfl ((C8 (ks:= .u64) (kt:= .i64) (a:=(n:Int)) rfl rfl).to e2) ?_|apply Cv|refine Ct 0 Cr A0 ?_|refine CY 2 Cr AH Ab ?_|refine Ct 4 Cr Ae ?_|refine Ct 4 Cr (CE rfl rfl rfl rfl rfl (h)) ?_|refine Ct 5 Cr (by exact C8 rfl rfl) ?_|refine Cu ?_|apply Cw|refine Cy ?_|refine CF ?_|apply CB)
  refine HA rfl rfl rfl (Fw (m:=n) rfl rfl rfl Aa Ab Ab) (fun b=> ?_)
  repeat' (first|apply Cv|refine Ct 0 Cr Ag ?_|refine Cu ?_|apply Cw)
  refine PQ (T:=79) (m:=1) (cs:=List.replicate n (i64 0)) (src:= [i64 v]) (k:=CV Un (.cells ⟨[i64 v]⟩ 79 (0,0))) (cs':=List.replicate 1 (i64 v)++List.replicate (n - 1) (i64 0)) rfl rfl rfl rfl rfl rfl rfl rfl rfl Sl.CV (Nat.min_eq_left h0) rfl As rfl (by simp [List.drop_replicate]) ?_
  repeat' (first|apply Cv|refine Ct 0 Cr Au ?_|apply Cw|refine CC ?_)
  refine C4 (fun d:Nat=> [(7,.slice (some ⟨b,0,none⟩) n n),(8,i64 (d:Int))])
    (fun d=> [CV b (.cells ⟨List.replicate d (i64 v)++List.replicate (n - d) (i64 0)⟩ 79 (0,0)),CV Un (.cells ⟨[i64 v]⟩ 79 (0,0))]) (fun d=>0<d/\d≤n) (fun d=>n - d) 1 (by repeat first|exact Sub.nil _|refine Sub.cons rfl ?_) ⟨Nat.zero_lt_one,h0⟩ ?_
  rintro d ⟨c8,jT⟩;by_cases hd:d<n
  · obtain⟨m,hm⟩:∃m,Nat.min d (n - d)=m:=⟨_,rfl⟩;have O5:min d (n - d)=m:=hm;have esub:Value.slice (sub (some ⟨b,0,none⟩) ((d:Nat):Int).toNat n 1) (n - ((d:Nat):Int).toNat) (n - ((d:Nat):Int).toNat)= .slice (some ⟨b,d,none⟩) (n - d) (n - d):=by
      rw [show sub (some (⟨b,0,none⟩:Addr)) ((d:Nat):Int).toNat n 1=some ⟨b,d,none⟩ from by rw [Int.toNat_natCast];unfold sub;rw [if_neg Ab];simp [Addr.add];omega];rfl
    repeat' (first|apply Cv|refine Ct 0 Cr Ap ?_|refine CO 2 Cr Aj Ab ?_|refine Ct 4 Cr Ae ?_|refine Cu ?_|apply Cw|refine Cy ?_|refine CH ?_|refine CC ?_|apply CB)
    refine C0 [.f [0],.q [1,2,3,4,5,6],.h true 7,.q [8,9]] [] Ac Ac Ac Ac ?_
    repeat' (first|refine CW rfl rfl rfl ((Io rfl rfl rfl Ab Ab).to esub) ?_|refine Ct 0 Cr Ag ?_|refine Ct 1 Cr Ao ?_|refine Ct 5 Cr BD ?_|refine C5 ?_|refine Dd rfl ?_|refine Fq rfl ?_|refine Z3 (T:=79) (off:=d) (o2:=0) (m:=m) (cs:=List.replicate d (i64 v)++List.replicate (n - d) (i64 0)) (src:=List.replicate m (i64 v)) (cs':=List.replicate (d+m) (i64 v)++List.replicate (n - (d+m)) (i64 0)) rfl rfl rfl rfl rfl rfl rfl rfl rfl (jf Ab) hm Am As (by simp [Value.oneCell']) fm ?_|apply Cw|refine Cy ?_|refine Ja ?_)
    exact⟨rfl,d+m,CX (by repeat first|exact Sub.nil _|refine Sub.cons rfl ?_),⟨by omega,by omega⟩,by omega⟩
  · obtain rfl:d=n:=by omega
    repeat' (first|apply Cv|refine Ct 0 Cr Ag ?_|refine CY 2 Cr Aj Ab ?_|refine Ct 4 Cr Ae ?_|refine Cu ?_|apply Cw|refine Cy ?_|refine CF ?_|apply Cz|refine C1 ?_)
    exact CJ [CV b (.cells ⟨List.replicate d (i64 v)++List.replicate (d - d) (i64 0)⟩ 79 (0,0)),CV Un (.cells ⟨[i64 v]⟩ 79 (0,0))] (CD (Cx rfl)) ⟨b,rfl,by simp⟩
theorem bq(Un:Nat)(v:Int):SL.T Tryz.prog 45 [.slice (some ⟨Un,0,none⟩) 1 1,i64 0] [CV Un (.cells ⟨[i64 v]⟩ 79 (0,0))] fun e o=>
    ∃b,e= .returned (.slice (some ⟨b,0,none⟩) 0 0)/\o= [CV b (.cells ⟨[]⟩ 79 (0,0)),CV Un (.cells ⟨[i64 v]⟩ 79 (0,0))]:=by
  have h:=iq [] 1 0 Ab Ab Ab;refine CM Tryz.func45 rfl (Nat.le_of_ble_eq_true rfl) fun F=> ?_
  repeat' (first|apply Cv|refine Ct 0 Cr A0 ?_|refine CY 2 Cr AH Ab ?_|refine Ct 4 Cr Ae ?_|refine Ct 4 Cr (CE rfl rfl rfl rfl rfl (h)) ?_|refine Ct 5 Cr (by exact C8 rfl rfl) ?_|refine Cu ?_|apply Cw|refine Cy ?_|refine CF ?_|apply CB)
  refine HA rfl rfl rfl (Fw (m:=0) rfl rfl rfl Aa Ab Ab) (fun b=> ?_)
  repeat' (first|apply Cv|refine Ct 0 Cr Ag ?_|refine Cu ?_|apply Cw)
  refine PQ (T:=79) (m:=0) (cs:=List.replicate 0 (i64 0)) (src:= []) (k:=CV Un (.cells ⟨[i64 v]⟩ 79 (0,0))) (cs':= []) rfl rfl rfl rfl rfl rfl rfl rfl rfl (Sl.take (cs:= [i64 v]) Sl.CV 0) rfl rfl Ah rfl rfl ?_
  repeat' (first|apply Cv|refine Ct 0 Cr Au ?_|apply Cw|refine CC ?_)
  refine HY 2 (Lw ?_)
  repeat' (first|apply Cv|refine Ct 0 Cr Ag ?_|refine CY 2 Cr Aj Ab ?_|refine Ct 4 Cr Ae ?_|refine Cu ?_|apply Cw|refine Cy ?_|refine CF ?_|apply Cz|refine C1 ?_)
  exact CJ [CV b (.cells ⟨[]⟩ 79 (0,0)),CV Un (.cells ⟨[i64 v]⟩ 79 (0,0))] (CD (Cx rfl)) ⟨b,rfl,rfl⟩
end Go.Proofs.YtcnmnmjmpocepaaGreatDoor
end
section
namespace Go.Proofs.YtcnmnmjmpocepaaGreatDoor
open Go.SL
open Kd
theorem ZF(l:List Int):(l.map i64).all (·.oneCell')=true:=by simp [Value.oneCell']
theorem eY{h:CA}{cs:List Value}(s:Sl h none cs):cs= []:=by
  cases cs with
  |nil=>rfl
  |cons c l=>obtain⟨a',mH,T3,qe,p1, -⟩:=s.cell 0 c rfl;cases p1
theorem Za(m:Me)(n k:Nat)(hk:min m.params.length n=k):m.params.take k++List.replicate (n - k) (-1)=Fi m n:=by
  apply List.ext_getElem?;intro i;have hr:(Fi m n)[i]?=if i<n then some (m.params.getD i (-1)) else none:=by
    by_cases hi:i<n
    · simp [Fi,hi]
    · simp [Fi,hi]
  rw [hr];by_cases hi:i<k
  · rw [List.getElem?_append_left As,List.getElem?_take,if_pos hi,if_pos Ab];simp [List.getD,List.getElem?_eq_getElem (show i<m.params.length by omega)]
  · rw [List.getElem?_append_right As,List.getElem?_replicate];have hl:(m.params.take k).length=k:=by simp;omega
    rw [hl];by_cases h2:i<n
    · rw [if_pos Ab,if_pos h2,List.getD,List.getElem?_eq_none Ab];rfl
    · rw [if_neg Ab,if_neg h2]
attribute [local irreducible] SL.T Dw DG DE DI Et D0
theorem fq(Un:Nat)(v:Int)(n:Nat)(hn:n≤65536):SL.T Tryz.prog 45 [.slice (some ⟨Un,0,none⟩) 1 1,i64 (n:Int)] [CV Un (.cells ⟨[i64 v]⟩ 79 (0,0))] fun e o=>
    ∃b,e= .returned (.slice (some ⟨b,0,none⟩) n n)/\o= [CV b (.cells ⟨List.replicate n (i64 v)⟩ 79 (0,0)),CV Un (.cells ⟨[i64 v]⟩ 79 (0,0))]:=by
  rcases Nat.eq_zero_or_pos n with rfl|h
  · exact bq Un v
  · exact fp Un v n h hn
theorem TF(K:CA)(im:Im)(Du mb:Option Addr)(Dr DP mn mc:Nat)(mi:Int)(Gq:Hd K im.ms mb mn)(m:Me)
    (h:0≤mi/\mi<mn) (hm:im.ms[mi.toNat]?=some m):SL.T Tryz.prog 18 [Gi Du Dr DP mb mn mc,i64 mi] [K] (Ug m K):=by
  obtain⟨C9,h1,h2,h3,h4,h5⟩:=Gq;obtain⟨pb,pn,pc,cb,cn,cc,g1,g2,g3,g4,g5,g6,g7,g8,g9,g10⟩:=h5 _ _ hm;haveI:=h1;have hN:=NY m;have hN2:min (max m.lo 0) 65536=(FL m:Int):=by unfold FL;omega
  generalize hn:FL m=n at hN hN2
  unfold Ug;rw [hn];have hrep:=fun β=>fq β (-1) n hN
  have e2:Value.int .i64 (min (max m.lo 0) 65536)=i64 (n:Int):=congrArg _ hN2;refine CM Tryz.func18 rfl (Nat.le_of_ble_eq_true rfl) fun F=> ?_
  repeat' (first|apply Cv|refine Ct 0 Cr AV ?_|refine Ct 3 Cr Af ?_|refine Ct 4 Cr (CE rfl rfl rfl rfl rfl (Lr [K] _ _ _ C9 _ _ _ _ _ h2 h4 h ⟨g1,g2,g3,g4⟩ rfl)) ?_|refine C2 (fun β=> ?_)|refine CT (fun β=> ?_)|refine CN ?_|refine Cu ?_|apply Cw|refine Cy ?_|refine CF ?_|apply CB)
  refine C0 [.an 0,.q [2,3,4,5],.an 8,.rv 0,.q [1],.h true 6,.q [7],.rv 8,.h true 9] [] Ac Ac Ac Ac ?_
  repeat' (first|refine CW rfl rfl rfl ((Jp rfl rfl rfl rfl rfl).to e2) ?_|apply Cv|refine Ct 3 Cr Af ?_|refine Ct 4 Cr (by exact Yk rfl rfl rfl rfl rfl) ?_|refine Ct 4 Cr (CE rfl rfl rfl rfl rfl (Fk [] _)) ?_|refine Ct 5 Cr Aq ?_|refine Cu ?_|refine C5 ?_|refine Dd rfl ?_|refine Dn rfl rfl Ca ?_|refine DN rfl rfl rfl (fun β=> ?_)|refine Df rfl rfl rfl rfl rfl rfl Aa rfl Aa Aa ?_|(refine EL rfl rfl rfl rfl rfl rfl rfl rfl (hrep _) ?_;rintro _ _ ⟨bR,rfl,rfl⟩;refine⟨_,_,rfl,rfl,?_⟩)|apply Cw)
  obtain⟨k,hk⟩:∃k,Nat.min pn n=k:=⟨_,rfl⟩;have Oh:min pn n=k:=hk;have hkm:min m.params.length n=k:=by rw [g6];exact hk
  have hcells:(List.replicate n (i64 (-1))).take 0++(m.params.map i64).take k++(List.replicate n (i64 (-1))).drop (0+k*1)=(Fi m n).map i64:=by
    rw [<-Za m n k hkm,List.map_append,List.map_take,List.map_replicate,List.take_zero,List.nil_append,List.drop_replicate,Nat.mul_one,Nat.zero_add]
  have hlen:((Fi m n).map i64).length=n*1:=by simp [Ia]
  rcases pb with _|ap
  · have hp:m.params= []:=List.map_eq_nil_iff.1 (eY g5);obtain rfl:pn=0:=by rw [hp] at g6;exact g6.symm
    have e:List.replicate n (i64 (-1))=(Fi m n).map i64:=by
      rw [<-hcells,hp];simp;omega
    rw [e]
    repeat' (first|apply Cv)
    refine aY rfl rfl rfl rfl rfl rfl rfl rfl rfl ?_
    repeat' (first|apply Cv|refine Ct 0 Cr Au ?_|refine Ct 3 Cr AA ?_|refine CN ?_|refine Cu ?_|apply Cw|refine Cy ?_|apply Cz)
    exact CJ [K,CV bR (.cells ⟨(Fi m n).map i64⟩ 79 (0,0))] (CU (CR rfl rfl rfl rfl) (Cx rfl)) ⟨_,some ⟨bR,0,none⟩,n,rfl,rfl,OS.CV (len:=n) hlen⟩
  · repeat' (first|apply Cv)
    refine PQ (T:=79) (m:=k) (cs:=List.replicate n (i64 (-1))) (src:=(m.params.map i64).take k) (k:=K) (cs':=(Fi m n).map i64) rfl rfl rfl rfl rfl rfl rfl rfl rfl (Sl.take g5 k) hk As As (by rw [<-List.map_take];exact ZF _) hcells ?_
    repeat' (first|apply Cv|refine Ct 0 Cr Au ?_|refine Ct 3 Cr AA ?_|refine CN ?_|refine Cu ?_|apply Cw|refine Cy ?_|apply Cz)
    exact CJ [K,CV bR (.cells ⟨(Fi m n).map i64⟩ 79 (0,0))] (CU (CR rfl rfl rfl rfl) (Cx rfl)) ⟨_,some ⟨bR,0,none⟩,n,rfl,rfl,OS.CV (len:=n) hlen⟩
end Go.Proofs.YtcnmnmjmpocepaaGreatDoor
end
