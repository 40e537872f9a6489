
import Derived.Test.YtcnmnmjmpocepaaGreatDoorV00
import Derived.Test.YtcnmnmjmpocepaaGreatDoorV09
import Derived.Test.YtcnmnmjmpocepaaGreatDoorV14
import Derived.Test.YtcnmnmjmpocepaaGreatDoorV08
set_option linter.unusedVariables false
set_option linter.unusedSimpArgs false
set_option linter.unusedSectionVars false
set_option maxRecDepth 100000
set_option maxHeartbeats 16000000
section
namespace Go.Proofs.YtcnmnmjmpocepaaGreatDoor.Kd
open Go.SL
attribute [local irreducible] SL.T Dw DG DE DI Et D0 KQ
abbrev so(b1 b2:Nat):Value:= .func (.func 78) #[] #[.pointer (some ⟨b1,0,none⟩),.pointer (some ⟨b2,0,none⟩)]
theorem Wd(b1 b2:Option Addr)(n1 n2 c1 c2:Nat):
    SL.T Tryz.prog 77 [.slice b1 n1 c1,.slice b2 n2 c2] [] fun e o=>∃ET Ei,e= .returned (so ET Ei)/\o= [CV ET (.cells ⟨[.slice b1 n1 c1]⟩ 57 (0,0)),CV Ei (.cells ⟨[.slice b2 n2 c2]⟩ 57 (0,0))]:=by
  refine CM Tryz.func77 rfl (Nat.le_of_ble_eq_true rfl) fun F=> ?_
  repeat' (first|apply Cv|refine Ct 0 Cr Bs ?_|refine C2 (fun β=> ?_)|refine Cu ?_|apply Cw|refine Cy ?_|apply Cz)
  rename_i ET
  exact CJ [CV ET (.cells ⟨[.slice b1 n1 c1]⟩ 57 (0,0)),CV β (.cells ⟨[.slice b2 n2 c2]⟩ 57 (0,0))] (CD (Cx rfl)) ⟨ET,β,rfl,rfl⟩
abbrev rh(bp b1:Nat):Value:= .func (.func 80) #[] #[.pointer (some ⟨bp,0,none⟩),.pointer (some ⟨b1,0,none⟩)]
theorem cD(bp:Nat)(b1:Option Addr)(n1 c1:Nat):
    SL.T Tryz.prog 79 [.slice b1 n1 c1,.pointer (some ⟨bp,0,none⟩)] [] fun e o=>∃ET,e= .returned (rh bp ET)/\o= [CV ET (.cells ⟨[.slice b1 n1 c1]⟩ 57 (0,0))]:=by
  refine CM Tryz.func79 rfl (Nat.le_of_ble_eq_true rfl) fun F=> ?_
  repeat' (first|apply Cv|refine Ct 0 Cr Bs ?_|refine C2 (fun β=> ?_)|refine Cu ?_|apply Cw|refine Cy ?_|apply Cz)
  exact CJ [CV β (.cells ⟨[.slice b1 n1 c1]⟩ 57 (0,0))] (CD (Cx rfl)) ⟨β,rfl,rfl⟩
def rowOf(im:Im)(m:Me)(loc:List Int)(op a b:Int):Option Row:=
  if op=0 then some ⟨true,[],[0]⟩
  else if op=1 then some ⟨EZ im.cls a,[],[up a]⟩
  else if op=2 then some ⟨EZ loc a,[],[if EZ loc a then loc.getD a.toNat 0 else 0]⟩
  else if op=3 then some ⟨EZ loc a,[-2],[]⟩
  else if op=4 then some ⟨true,[0,0],[0]⟩
  else if op=5 then some ⟨true,[0,0],[0]⟩
  else if op=6 then some ⟨EZ m.code a,[],[]⟩
  else if op=7 then some ⟨EZ m.code a,[0],[]⟩
  else if op=8 then some ⟨EZ m.code a,[0,0],[]⟩
  else if op=9 then some ⟨EZ im.cls a,[],[up a]⟩
  else if op=10 then some ⟨(DJ im a b).isSome,[up b],[(DJ im a b).getD 0]⟩
  else if op=11 then some ⟨(DJ im a b).isSome,[up b,(DJ im a b).getD 0],[]⟩
  else if op=12 then some ⟨true,[-3],[]⟩
  else if op=13 then some ⟨true,[-3],[]⟩
  else if op=14 then some ⟨true,[-3],[0]⟩
  else if op=15 then some ⟨true,[-3],[]⟩
  else if op=16 then some ⟨true,[-3],[]⟩
  else if op=17 then some ⟨(EM im a).isSome,(EM im a).getD [],[0]⟩
  else if op=18 then some ⟨(EM im a).isSome,(EM im a).getD [],[0]⟩
  else if op=19 then some ⟨true,[0],[]⟩
  else if op=20 then some ⟨true,[0],[]⟩
  else none
def YS(K:CA)(p:Pl)(im:Im)(m:Me)(loc:List Int)(f:Int->Option Value):Prop:=
  ∀ z,match rowOf im m loc z p.a p.b with
    |none=>f z=none
    |some r=>∃g first cap all,Enters Tryz.prog g/\f z=some (.func (.func g) first cap)/\Lq first.toList [] cap.toList=some all/\KQ g all K r
theorem VK(K:CA)(p:Pl)(im:Im)(m:Me)(loc:List Int)(ok:Ls K p im m loc):
    SL.T Tryz.prog 48 [.agg ⟨p.cells⟩] [K] fun e o=>∃hM K' bm f,o= [K',hM]/\hle K K'/\e= .returned (.map (some bm))/\MP hM bm .i64 f/\YS K' p im m loc f:=by
  refine(Gw (R:=fun e A N=>∃hM bm f,A= [hM]/\K∈N/\e= .returned (.map (some bm))/\MP hM bm .i64 f/\∀K',(∀k∈N,hle k K')->YS K' p im m loc f) ?_).mono ?_
  · refine CM Tryz.func48 rfl (Nat.le_of_ble_eq_true rfl) fun F=> ?_
    repeat' (first|apply Cv|refine Ct 0 Cr Be ?_|refine Ct 4 Cr (CE rfl rfl rfl rfl rfl (Fk [] _)) ?_|(refine gk 4 rfl ?_;(refine CK rfl rfl rfl rfl rfl rfl rfl rfl (Wd _ _ _ _ _ _) ?_;rintro _ _ ⟨ET,Ei,rfl,rfl⟩;refine⟨_,_,rfl,rfl,?_⟩))|refine CP (fun b=> ?_)|refine C2 (fun β=> ?_)|refine Cu ?_|apply Cw)
    refine C0 [.an 0,.q [1,2,5],.fi 6 0,.q [7],.fi 8 0,.q [9,10,11,14,15,16,19,22,23,26,27,30],.fi 31 0,.q [32],.fi 33 0,.q [34],.fi 35 0,.q [36],.fi 37 0,.q [38],.an 39,.q [41,44,45,48,49,52,53],.fi 54 0,.q [55,56],.fi 57 0,.q [58,59],.fi 60 0,.q [61,62],.fi 63 0,.q [64,65],.fi 66 0,.q [67,68],.fi 69 0,.h false 3,.fi 4 0,.h false 12,.fi 13 0,.h false 17,.fi 18 0,.h false 20,.fi 21 0,.h false 24,.fi 25 0,.h false 28,.fi 29 0,.rv 39,.h false 40,.h false 42,.fi 43 0,.h false 46,.fi 47 0,.h false 50,.fi 51 0,.rv 0,.q [70,71]] [] Ac Ac Ac Ac ?_
    repeat' (first|refine Ct 0 Cr Be ?_|refine Ct 3 Cr AA ?_|refine C5 ?_|refine Dd rfl ?_|refine Dn rfl rfl (by first|exact U8 rfl|exact(FU rfl rfl Aa Aa Aa Aa Aa)) ?_|refine gL rfl rfl rfl (fun _=>rfl) rfl (fun bm hM mp=> ?_)|refine DN rfl rfl rfl (fun β=> ?_)|refine j9 rfl rfl rfl rfl rfl Ac (by intro h;cases h) (by intro h;cases h) rfl rfl rfl (fun _=>rfl) rfl ?_|refine IJ rfl rfl rfl rfl rfl rfl rfl rfl (Fk [] _) rfl ?_|(refine Ev rfl rfl rfl rfl rfl rfl rfl rfl (Wd _ _ _ _ _ _) (by rintro _ _ ⟨ET,Ei,rfl,rfl⟩;exact⟨_,rfl⟩) ?_;rintro _ _ ⟨ET,Ei,rfl,rfl⟩;refine⟨_,_,rfl,rfl,?_⟩)|(refine Ev rfl rfl rfl rfl rfl rfl rfl rfl (cD _ _ _ _) (by rintro _ _ ⟨ET,rfl,rfl⟩;exact⟨_,rfl⟩) ?_;rintro _ _ ⟨ET,rfl,rfl⟩;refine⟨_,_,rfl,rfl,?_⟩)|apply Cw|refine Cy ?_|apply Cz)
    rename_i DA bn bt u1 u2 a1 a2 c1 c2 d1 d2 j6 j7 j8 e1 e2 g1 g2
    refine Gj _ (CD (Cx rfl)) (fun F w s=>s) ⟨[hM],_,(List.perm_append_singleton hM _).symm,hM,bm,_,rfl,?_,rfl,mp,?_⟩
    · repeat first|exact List.mem_cons_self .. |apply List.mem_cons_of_mem
    intro K' hK;have ok':Ls K' p im m loc:=ok.mono (hK K (by repeat first|exact List.mem_cons_self .. |apply List.mem_cons_of_mem));haveI hp:LO K' DA (.cells ⟨p.cells⟩ 118 (0,0)):=⟨E0.1 (hK _ (by repeat first|exact List.mem_cons_self .. |apply List.mem_cons_of_mem))⟩;have sn:Sl K' (some ⟨bn,0,none⟩) ([0].map i64):=(Sl.CV (cs:= [i64 0])).mono (hK (CV bn (.cells ⟨[i64 0]⟩ 79 (0,0))) (by repeat first|exact List.mem_cons_self .. |apply List.mem_cons_of_mem));have st:Sl K' (some ⟨bt,0,none⟩) ([0,0].map i64):=(Sl.CV (cs:= [i64 0,i64 0])).mono (hK (CV bt (.cells ⟨[i64 0,i64 0]⟩ 79 (0,0))) (by repeat first|exact List.mem_cons_self .. |apply List.mem_cons_of_mem));have sr:Sl K' (some ⟨b,0,none⟩) ([-3].map i64):=(Sl.CV (cs:= [i64 (-3)])).mono (hK (CV b (.cells ⟨[i64 (-3)]⟩ 79 (0,0))) (by repeat first|exact List.mem_cons_self .. |apply List.mem_cons_of_mem));have sr2:Sl K' (some ⟨β,0,none⟩) ([-3].map i64):=(Sl.CV (cs:= [i64 (-3)])).mono (hK (CV β (.cells ⟨[i64 (-3)]⟩ 79 (0,0))) (by repeat first|exact List.mem_cons_self .. |apply List.mem_cons_of_mem));haveI:LO K' a1 (.cells ⟨[.slice none 0 0]⟩ 57 (0,0)):=⟨E0.1 (hK _ (by repeat first|exact List.mem_cons_self .. |apply List.mem_cons_of_mem))⟩;haveI:LO K' a2 (.cells ⟨[.slice (some ⟨bn,0,none⟩) 1 1]⟩ 57 (0,0)):=⟨E0.1 (hK _ (by repeat first|exact List.mem_cons_self .. |apply List.mem_cons_of_mem))⟩;haveI:LO K' c1 (.cells ⟨[.slice (some ⟨bt,0,none⟩) 2 2]⟩ 57 (0,0)):=⟨E0.1 (hK _ (by repeat first|exact List.mem_cons_self .. |apply List.mem_cons_of_mem))⟩;haveI:LO K' c2 (.cells ⟨[.slice (some ⟨bn,0,none⟩) 1 1]⟩ 57 (0,0)):=⟨E0.1 (hK _ (by repeat first|exact List.mem_cons_self .. |apply List.mem_cons_of_mem))⟩;haveI:LO K' d1 (.cells ⟨[.slice (some ⟨bt,0,none⟩) 2 2]⟩ 57 (0,0)):=⟨E0.1 (hK _ (by repeat first|exact List.mem_cons_self .. |apply List.mem_cons_of_mem))⟩;haveI:LO K' d2 (.cells ⟨[.slice (some ⟨bn,0,none⟩) 1 1]⟩ 57 (0,0)):=⟨E0.1 (hK _ (by repeat first|exact List.mem_cons_self .. |apply List.mem_cons_of_mem))⟩;haveI:LO K' u1 (.cells ⟨[.slice (some ⟨b,0,none⟩) 1 1]⟩ 57 (0,0)):=⟨E0.1 (hK _ (by repeat first|exact List.mem_cons_self .. |apply List.mem_cons_of_mem))⟩;haveI:LO K' u2 (.cells ⟨[.slice none 0 0]⟩ 57 (0,0)):=⟨E0.1 (hK _ (by repeat first|exact List.mem_cons_self .. |apply List.mem_cons_of_mem))⟩;haveI:LO K' e1 (.cells ⟨[.slice (some ⟨β,0,none⟩) 1 1]⟩ 57 (0,0)):=⟨E0.1 (hK _ (by repeat first|exact List.mem_cons_self .. |apply List.mem_cons_of_mem))⟩;haveI:LO K' e2 (.cells ⟨[.slice (some ⟨bn,0,none⟩) 1 1]⟩ 57 (0,0)):=⟨E0.1 (hK _ (by repeat first|exact List.mem_cons_self .. |apply List.mem_cons_of_mem))⟩;haveI:LO K' g1 (.cells ⟨[.slice (some ⟨bn,0,none⟩) 1 1]⟩ 57 (0,0)):=⟨E0.1 (hK _ (by repeat first|exact List.mem_cons_self .. |apply List.mem_cons_of_mem))⟩;haveI:LO K' g2 (.cells ⟨[.slice none 0 0]⟩ 57 (0,0)):=⟨E0.1 (hK _ (by repeat first|exact List.mem_cons_self .. |apply List.mem_cons_of_mem))⟩;haveI:LO K' ET (.cells ⟨[.slice (some ⟨bn,0,none⟩) 1 1]⟩ 57 (0,0)):=⟨E0.1 (hK _ (by repeat first|exact List.mem_cons_self .. |apply List.mem_cons_of_mem))⟩;haveI:LO K' Ei (.cells ⟨[.slice none 0 0]⟩ 57 (0,0)):=⟨E0.1 (hK _ (by repeat first|exact List.mem_cons_self .. |apply List.mem_cons_of_mem))⟩;haveI:LO K' j6 (.cells ⟨[.slice none 0 0]⟩ 57 (0,0)):=⟨E0.1 (hK _ (by repeat first|exact List.mem_cons_self .. |apply List.mem_cons_of_mem))⟩;haveI:LO K' j7 (.cells ⟨[.slice (some ⟨bn,0,none⟩) 1 1]⟩ 57 (0,0)):=⟨E0.1 (hK _ (by repeat first|exact List.mem_cons_self .. |apply List.mem_cons_of_mem))⟩;haveI:LO K' j8 (.cells ⟨[.slice (some ⟨bt,0,none⟩) 2 2]⟩ 57 (0,0)):=⟨E0.1 (hK _ (by repeat first|exact List.mem_cons_self .. |apply List.mem_cons_of_mem))⟩;intro z;by_cases h0:z=0
    · subst h0;exact(show _ from⟨78,_,_,_,inferInstance,rfl,rfl,E1 K' a1 a2 none 0 0 (some ⟨bn,0,none⟩) 1 1 [] [0] Sl.none sn rfl rfl⟩)
    by_cases h1:z=1
    · subst h1;exact(show _ from⟨81,_,_,_,inferInstance,rfl,rfl,Qf K' DA p im m loc ok'⟩)
    by_cases h2:z=2
    · subst h2;exact(show _ from⟨83,_,_,_,inferInstance,rfl,rfl,Xj K' p im m loc ok'⟩)
    by_cases h3:z=3
    · subst h3;exact(show _ from⟨84,_,_,_,inferInstance,rfl,rfl,Uu K' p im m loc ok'⟩)
    by_cases h4:z=4
    · subst h4;exact(show _ from⟨78,_,_,_,inferInstance,rfl,rfl,E1 K' c1 c2 (some ⟨bt,0,none⟩) 2 2 (some ⟨bn,0,none⟩) 1 1 [0,0] [0] st sn rfl rfl⟩)
    by_cases h5:z=5
    · subst h5;exact(show _ from⟨78,_,_,_,inferInstance,rfl,rfl,E1 K' d1 d2 (some ⟨bt,0,none⟩) 2 2 (some ⟨bn,0,none⟩) 1 1 [0,0] [0] st sn rfl rfl⟩)
    by_cases h6:z=6
    · subst h6;exact(show _ from⟨80,_,_,_,inferInstance,rfl,rfl,Hq K' DA j6 p im m loc none 0 0 [] ok' Sl.none rfl⟩)
    by_cases h7:z=7
    · subst h7;exact(show _ from⟨80,_,_,_,inferInstance,rfl,rfl,Hq K' DA j7 p im m loc (some ⟨bn,0,none⟩) 1 1 [0] ok' sn rfl⟩)
    by_cases h8:z=8
    · subst h8;exact(show _ from⟨80,_,_,_,inferInstance,rfl,rfl,Hq K' DA j8 p im m loc (some ⟨bt,0,none⟩) 2 2 [0,0] ok' st rfl⟩)
    by_cases h9:z=9
    · subst h9;exact(show _ from⟨81,_,_,_,inferInstance,rfl,rfl,Qf K' DA p im m loc ok'⟩)
    by_cases h10:z=10
    · subst h10;exact(show _ from⟨85,_,_,_,inferInstance,rfl,rfl,ZX K' p im m loc ok'⟩)
    by_cases h11:z=11
    · subst h11;exact(show _ from⟨86,_,_,_,inferInstance,rfl,rfl,Fa K' p im m loc ok'⟩)
    by_cases h12:z=12
    · subst h12;exact(show _ from⟨78,_,_,_,inferInstance,rfl,rfl,E1 K' u1 u2 (some ⟨b,0,none⟩) 1 1 none 0 0 [-3] [] sr Sl.none rfl rfl⟩)
    by_cases h13:z=13
    · subst h13;exact(show _ from⟨78,_,_,_,inferInstance,rfl,rfl,E1 K' u1 u2 (some ⟨b,0,none⟩) 1 1 none 0 0 [-3] [] sr Sl.none rfl rfl⟩)
    by_cases h14:z=14
    · subst h14;exact(show _ from⟨78,_,_,_,inferInstance,rfl,rfl,E1 K' e1 e2 (some ⟨β,0,none⟩) 1 1 (some ⟨bn,0,none⟩) 1 1 [-3] [0] sr2 sn rfl rfl⟩)
    by_cases h15:z=15
    · subst h15;exact(show _ from⟨78,_,_,_,inferInstance,rfl,rfl,E1 K' u1 u2 (some ⟨b,0,none⟩) 1 1 none 0 0 [-3] [] sr Sl.none rfl rfl⟩)
    by_cases h16:z=16
    · subst h16;exact(show _ from⟨78,_,_,_,inferInstance,rfl,rfl,E1 K' u1 u2 (some ⟨b,0,none⟩) 1 1 none 0 0 [-3] [] sr Sl.none rfl rfl⟩)
    by_cases h17:z=17
    · subst h17;exact(show _ from⟨87,_,_,_,inferInstance,rfl,rfl,QQ K' p im m loc ok'⟩)
    by_cases h18:z=18
    · subst h18;exact(show _ from⟨87,_,_,_,inferInstance,rfl,rfl,QQ K' p im m loc ok'⟩)
    by_cases h19:z=19
    · subst h19;exact(show _ from⟨78,_,_,_,inferInstance,rfl,rfl,E1 K' g1 g2 (some ⟨bn,0,none⟩) 1 1 none 0 0 [0] [] sn Sl.none rfl rfl⟩)
    by_cases SN:z=20
    · subst SN;exact(show _ from⟨78,_,_,_,inferInstance,rfl,rfl,E1 K' ET Ei (some ⟨bn,0,none⟩) 1 1 none 0 0 [0] [] sn Sl.none rfl rfl⟩)
    have hr:rowOf im m loc z p.a p.b=none:=by simp only [rowOf,h0,h1,h2,h3,h4,h5,h6,h7,h8,h9,h10,h11,h12,h13,h14,h15,h16,h17,h18,h19,SN,if_false]
    rw [hr];show dx _ 0 z=none;simp only [dx,h0,h1,h2,h3,h4,h5,h6,h7,h8,h9,h10,h11,h12,h13,h14,h15,h16,h17,h18,h19,SN,if_false,if_true]
  · rintro e o ⟨A,N,K',rfl,hK,hM,bm,f,rfl,hKN,rfl,mp,h⟩;exact⟨hM,K',bm,f,rfl,hK K hKN,rfl,mp,h K' hK⟩
theorem YH(K:CA)(p:Pl)(im:Im)(m:Me)(loc:List Int)(ok:Ls K p im m loc):
    SL.T Tryz.prog 48 [.agg ⟨p.cells⟩] [K] fun e o=>∃Kn hM bm f K',o= [K,Kn,hM]/\(∀K2,hle K K2->hle Kn K2->hle K' K2)/\e= .returned (.map (some bm))/\MP hM bm .i64 f/\YS K' p im m loc f:=by
  refine(km (R:=fun e K' rest=>∃hM bm f,rest= [hM]/\e= .returned (.map (some bm))/\MP hM bm .i64 f/\YS K' p im m loc f) ((VK K p im m loc ok).mono ?_)).mono ?_
  · rintro e o ⟨hM,K',bm,f,rfl,h1,h2,h3,h4⟩;exact⟨K',[hM],rfl,h1,hM,bm,f,rfl,h2,h3,h4⟩
  · rintro e o ⟨Kn,rest,K',rfl,h1,hM,bm,f,rfl,h2,h3,h4⟩;exact⟨Kn,hM,bm,f,K',rfl,h1,h2,h3,h4⟩
theorem KQ.more{g:FuncId}{all:List Value}{K K2:CA}{r:Row}(h:KQ g all K r)(hk:hle K K2):SL.T Tryz.prog g all [K2] (mM r K2):=by
  unfold KQ at h
  refine kj (Q:=fun e K'=>∃tb tn tc pb pn pc,e= .returned (WY r.is tb tn tc pb pn pc)/\Sl K' tb (r.take.map i64)/\Sl K' pb (r.put.map i64)/\r.take.length=tn/\r.put.length=pn) ?_ h hk;rintro e A B qd ⟨tb,tn,tc,pb,pn,pc,h1,h2,h3,h4⟩;exact⟨tb,tn,tc,pb,pn,pc,h1,h2.mono qd,h3.mono qd,h4⟩
end Go.Proofs.YtcnmnmjmpocepaaGreatDoor.Kd
end
section
namespace Go.Proofs.YtcnmnmjmpocepaaGreatDoor.Kd
open Go.SL
attribute [local irreducible] SL.T Dw DG DE DI Et D0 KQ
abbrev SV(f:FuncId):Value:= .func (.func f) #[] #[]
def Jv(xs ys:List Int):Prop:=xs.length=ys.length/\∀(i:Nat) (x y:Int),xs[i]?=some x->ys[i]?=some y->II x y
theorem Pc(own:List CA)(b1 b2:Option Addr)(n1 n2 c1 c2:Nat)(xs ys:List Int) [Ds own b1 (xs.map i64)] [Ds own b2 (ys.map i64)](h1:xs.length=n1)(h2:ys.length=n2)(DO:n1≤9223372036854775807):
    ∃b:Bool,(b=true↔Jv xs ys)/\Dw Tryz.prog 49 [.slice b1 n1 c1,.slice b2 n2 c2,SV 50] own (.bool b):=by
  by_cases hf:Jv xs ys
  · refine⟨true,by simp [hf],?_⟩;obtain⟨hl,hp⟩:=hf;obtain rfl:n1=n2:=by omega
    refine CL Tryz.func49 rfl (Nat.le_of_ble_eq_true rfl) fun F=> ?_
    repeat' (first|apply Cv|refine Ct 0 Cr Ag ?_|refine CY 2 Cr Ax Ab ?_|refine Ct 4 Cr Ae ?_|refine Cu ?_|apply Cw|refine Cy ?_|refine CF ?_|refine CC ?_|apply CB)
    refine C4 (fun j:Nat=> [(1,.slice b2 n1 c2),(2,SV 50),(15,.slice b1 n1 c1),(16,i64 (n1:Int)),(17,i64 (j:Int))])
      (fun _=>own) (fun j=>j≤n1) (fun j=>n1 - j) 0 (by repeat first|exact Sub.nil _|refine Sub.cons rfl ?_) (Nat.zero_le _) ?_
    rintro j LV;by_cases hj:j<n1
    · obtain⟨x,hx⟩:∃z,xs[j]?=some z:=⟨_,List.getElem?_eq_getElem Ab⟩;obtain⟨y,hy⟩:∃z,ys[j]?=some z:=⟨_,List.getElem?_eq_getElem Ab⟩;have hcx:(xs.map i64)[((j:Nat):Int).toNat*1]?=some (i64 x):=by simp [hx]
      have hcy:(ys.map i64)[((j:Nat):Int).toNat*1]?=some (i64 y):=by simp [hy]
      have hfc:=(MG own x y).to (congrArg Value.bool (decide_eq_true (hp j x y hx hy)))
      repeat' (first|apply Cv|refine Ct 0 Cr AS ?_|refine Ct 1 Cr Ao ?_|refine CO 2 Cr Aj Ab ?_|refine Ct 3 Cr AK ?_|refine Ct 4 Cr (Eh rfl rfl rfl rfl rfl (hfc)) ?_|refine Cu ?_|apply Cw|refine Cy ?_|refine CH ?_|refine CF ?_|refine CC ?_|apply CB)
      exact⟨rfl,j+1,CX (by repeat first|exact Sub.nil _|refine Sub.cons rfl ?_),by omega,by omega⟩
    · repeat' (first|apply Cv|refine Ct 0 Cr Au ?_|refine CY 2 Cr Aj Ab ?_|refine Cu ?_|apply Cw|refine Cy ?_|refine CF ?_|apply Cz|refine C1 ?_)
      refine CS (CD (Cx rfl)) ?_
      rfl
  · refine⟨false,by simp [hf],?_⟩;refine CL Tryz.func49 rfl (Nat.le_of_ble_eq_true rfl) fun F=> ?_
    by_cases hn:n1=n2
    · subst hn;have hex:∃(k:Nat) (x y:Int),xs[k]?=some x/\ys[k]?=some y/\¬II x y:=by
        apply Classical.byContradiction;intro Sx;exact hf ⟨by omega,fun i x y hx hy=>Classical.byContradiction fun Ns=>Sx ⟨i,x,y,hx,hy,Ns⟩⟩
      obtain⟨k,x0,y0,O4,nX,og⟩:=hex;have hk:k<n1:=by rw [<-h1];exact(List.getElem?_eq_some_iff.1 O4).1
      repeat' (first|apply Cv|refine Ct 0 Cr Ag ?_|refine CY 2 Cr Ax Ab ?_|refine Ct 4 Cr Ae ?_|refine Cu ?_|apply Cw|refine Cy ?_|refine CF ?_|refine CC ?_|apply CB)
      refine C4 (fun j:Nat=> [(1,.slice b2 n1 c2),(2,SV 50),(15,.slice b1 n1 c1),(16,i64 (n1:Int)),(17,i64 (j:Int))])
        (fun _=>own) (fun j=>j≤k) (fun j=>n1 - j) 0 (by repeat first|exact Sub.nil _|refine Sub.cons rfl ?_) (Nat.zero_le _) ?_
      rintro j LV;obtain⟨x,hx⟩:∃z,xs[j]?=some z:=⟨_,List.getElem?_eq_getElem Ab⟩;obtain⟨y,hy⟩:∃z,ys[j]?=some z:=⟨_,List.getElem?_eq_getElem Ab⟩;have hcx:(xs.map i64)[((j:Nat):Int).toNat*1]?=some (i64 x):=by simp [hx]
      have hcy:(ys.map i64)[((j:Nat):Int).toNat*1]?=some (i64 y):=by simp [hy]
      by_cases Jb:II x y
      · have hfc:=(MG own x y).to (congrArg Value.bool (decide_eq_true Jb));have p8:j≠k:=fun e=>by
          subst e;rw [hx] at O4;rw [hy] at nX;cases O4;cases nX;exact og Jb
        repeat' (first|apply Cv|refine Ct 0 Cr AS ?_|refine Ct 1 Cr Ao ?_|refine CO 2 Cr Aj Ab ?_|refine Ct 3 Cr AK ?_|refine Ct 4 Cr (Eh rfl rfl rfl rfl rfl (hfc)) ?_|refine Cu ?_|apply Cw|refine Cy ?_|refine CH ?_|refine CF ?_|refine CC ?_|apply CB)
        exact⟨rfl,j+1,CX (by repeat first|exact Sub.nil _|refine Sub.cons rfl ?_),by omega,by omega⟩
      · have hfc:=(MG own x y).to (congrArg Value.bool (decide_eq_false Jb))
        repeat' (first|apply Cv|refine Ct 0 Cr A3 ?_|refine CO 2 Cr Aj Ab ?_|refine Ct 3 Cr AK ?_|refine Ct 4 Cr (Eh rfl rfl rfl rfl rfl (hfc)) ?_|refine Cu ?_|apply Cw|refine Cy ?_|refine CH ?_|refine CC ?_|apply Cz|apply CB|refine CQ ?_|refine C3 ?_)
        refine CS (CD (Cx rfl)) ?_
        rfl
    · repeat' (first|apply Cv|refine Ct 0 Cr Ag ?_|refine CO 2 Cr Ax Ab ?_|refine Ct 4 Cr Ae ?_|refine Cu ?_|apply Cw|refine Cy ?_|refine CH ?_|apply Cz|refine CQ ?_)
      refine CS (CD (Cx rfl)) ?_
      rfl
end Go.Proofs.YtcnmnmjmpocepaaGreatDoor.Kd
end
