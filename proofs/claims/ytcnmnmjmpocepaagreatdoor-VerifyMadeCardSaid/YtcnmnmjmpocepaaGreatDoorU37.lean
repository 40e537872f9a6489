
import Derived.Test.YtcnmnmjmpocepaaGreatDoorU00
import Derived.Test.YtcnmnmjmpocepaaGreatDoorU11
import Derived.Test.YtcnmnmjmpocepaaGreatDoorU36
import Derived.Test.YtcnmnmjmpocepaaGreatDoorU30
import Derived.Test.YtcnmnmjmpocepaaGreatDoorU07
import Derived.Test.YtcnmnmjmpocepaaGreatDoorRows
import Derived.ChangeSame
import Derived.ChangeVars
import Derived.JoinedOf
import Derived.RowKit
import Derived.RowKitTokens
import Derived.LaidLaws
import Derived.LaidHandle
import Derived.Stop.Joined
set_option linter.unusedVariables false
set_option linter.unusedSimpArgs false
set_option linter.unusedSectionVars false
set_option maxRecDepth 100000
set_option maxHeartbeats 16000000
namespace Go.Proofs.YtcnmnmjmpocepaaGreatDoor
open Go Go.SL
set_option maxRecDepth 1000000
open Go.ChangeShapes Go.WideShapes Go.ChangeAt Go.RowKit
theorem Ui{α:Type}{l:List α}(h:l.length=7):∃a b c d e f g,l= [a,b,c,d,e,f,g]:=by
  match l,h with
  | [a,b,c,d,e,f,g],_=>exact⟨a,b,c,d,e,f,g,rfl⟩
theorem Nl:∀(zs:List Int),(∀z∈zs,0≤z/\z≤255)->∃bs:List Nat,zs.map (Value.int .u8)=bs.map Mx/\bs.length=zs.length/\∀x∈bs,x≤255
  | [],_=>⟨[],rfl,rfl,fun x hx=>(List.not_mem_nil hx).elim⟩
  | z ::zs,h=>by
    obtain⟨bs,h1,h2,h3⟩:=Nl zs fun x hx=>h x (List.mem_cons_of_mem _ hx)
    have hz:=h z (List.mem_cons_self ..);refine⟨z.toNat::bs,?_,by simp [h2],fun x hx=> ?_⟩
    · simp only [List.map_cons,h1]
      congr 2
      omega
    · rcases List.mem_cons.1 hx with rfl|hx
      · omega
      · exact h3 x hx
theorem UL{H:Type}{enc:TypeId×Value->H}{w:World}{sp:Nat->Bool}{held:Bool}{fuel:Nat}{cs:List Value}{x:DataW H×List MemPlace}
    (h:DataW.trod enc Tryz.prog w 0 sp held fuel 26 cs=some x):
    ∃ (bb:Option Addr) (bl bc:Nat) (B:List Nat) (PN:Bool) (m8 a8:Nat) (op a b:Int),cs= [.slice bb bl bc,.bool PN,.int .u8 (m8:Int),.int .u8 (a8:Int),.int .i64 op,.int .i64 a,.int .i64 b]/\B.length=bl/\Sl (wh w) bb (B.map Mx)/\bl≤maxLen/\bl≤bc/\
      (∀x∈B,x≤255)/\m8≤255/\a8≤255/\(-9223372036854775808≤a/\a≤9223372036854775807)/\(-9223372036854775808≤b/\b≤9223372036854775807):=by
  have k22:Tryz.prog.cellsOf 22=1:=by kernel_rfl
  have k4:Tryz.prog.cellsOf 4=1:=by kernel_rfl
  have k5:Tryz.prog.cellsOf 5=1:=by kernel_rfl
  have k24:Tryz.prog.cellsOf 24=3:=by kernel_rfl
  have k3:Tryz.prog.cellsOf 3=1:=by kernel_rfl
  obtain⟨hl,n,hf⟩:=MC (m:=7) Tryz.underlying26 Ac h;obtain⟨a,b,c,d,e,f,g,rfl⟩:=Ui hl;obtain⟨y0,h0⟩:=hf _ (List.mem_of_getElem? (i:=0) rfl);obtain⟨y1,h1⟩:=hf _ (List.mem_of_getElem? (i:=1) rfl);obtain⟨y2,h2⟩:=hf _ (List.mem_of_getElem? (i:=2) rfl);obtain⟨y3,h3⟩:=hf _ (List.mem_of_getElem? (i:=3) rfl);obtain⟨y4,h4⟩:=hf _ (List.mem_of_getElem? (i:=4) rfl);simp only [k22] at h0
  simp only [k4] at h1
  simp only [k5] at h2
  simp only [k5] at h3
  simp only [k24] at h4
  replace h0:DataW.trod enc Tryz.prog w 0 sp held n 22 [a]=some y0:=h0
  replace h1:DataW.trod enc Tryz.prog w 0 sp held n 4 [b]=some y1:=h1
  replace h2:DataW.trod enc Tryz.prog w 0 sp held n 5 [c]=some y2:=h2
  replace h3:DataW.trod enc Tryz.prog w 0 sp held n 5 [d]=some y3:=h3
  replace h4:DataW.trod enc Tryz.prog w 0 sp held n 24 [e,f,g]=some y4:=h4
  obtain⟨ka,n4,fh⟩:=MC (m:=3) Tryz.underlying24 k24 h4;obtain⟨z0,i0⟩:=fh _ (List.mem_of_getElem? (i:=0) rfl);obtain⟨z1,i1⟩:=fh _ (List.mem_of_getElem? (i:=1) rfl);obtain⟨z2,i2⟩:=fh _ (List.mem_of_getElem? (i:=2) rfl);simp only [k3] at i0 i1 i2
  replace i0:DataW.trod enc Tryz.prog w 0 sp held n4 3 [e]=some z0:=i0
  replace i1:DataW.trod enc Tryz.prog w 0 sp held n4 3 [f]=some z1:=i1
  replace i2:DataW.trod enc Tryz.prog w 0 sp held n4 3 [g]=some z2:=i2
  obtain⟨PN,e1, -⟩:=DataW.trod_bool Tryz.underlying4 h1;obtain⟨m8,e2, -,w2⟩:=DataW.trod_int Tryz.underlying5 h2;obtain⟨a8,e3, -,w3⟩:=DataW.trod_int Tryz.underlying5 h3;obtain⟨v0,e4, -,w4⟩:=DataW.trod_int Tryz.underlying3 i0;obtain⟨v1,e5, -,w5⟩:=DataW.trod_int Tryz.underlying3 i1;obtain⟨v2,e6, -,w6⟩:=DataW.trod_int Tryz.underlying3 i2;simp only [List.cons.injEq,and_true] at e1 e2 e3 e4 e5 e6
  subst e1 e2 e3 e4 e5 e6;have byte:∀z:Int,(Lit.int .u8 z).wf=true->0≤z/\z≤255:=fun z hz=>by
    obtain⟨n,rfl,hn⟩:=wf_u8 hz;omega
  have TA:∃(bb:Option Addr) (bl bc:Nat),a= .slice bb bl bc:=by
    rcases DataW.trod_slice Tryz.underlying22 h0 with ⟨e0, -⟩|⟨ad,len,cap,_,_,_,_,e0, -⟩
    · simp only [List.cons.injEq,and_true] at e0;exact⟨_,_,_,e0⟩
    · simp only [List.cons.injEq,and_true] at e0;exact⟨_,_,_,e0⟩
  obtain⟨bb,bl,bc,rfl⟩:=TA;obtain⟨B,g1,g2,g3,g4,g5⟩:=IH Tryz.underlying22 Tryz.underlying5 k5 h0;obtain⟨bs,b1,b2,b3⟩:=Nl B fun x hx=>byte x (g5 x hx)
  have q2:=byte _ w2;have q3:=byte _ w3;obtain⟨m8,rfl⟩:∃k:Nat,m8=(k:Int):=⟨m8.toNat,by omega⟩;obtain⟨a8,rfl⟩:∃k:Nat,a8=(k:Int):=⟨a8.toNat,by omega⟩;have b1':B.map (Value.int .u8)=bs.map Mx:=b1;have g2':Sl (wh w) bb (B.map (Value.int .u8)):=g2;rw [b1'] at g2'
  exact⟨bb,bl,bc,bs,PN,m8,a8,v0,v1,v2,rfl,by omega,g2',g3,g4,b3,by omega,by omega,wf_i64 w5,wf_i64 w6⟩
theorem mx:Tryz.prog.globalNamed "errors.errorType" =some 0:=by kernel_rfl
theorem lq:(Tryz.prog.cutTypes.find? (·.1 == "internal/reflectlite.rtype")).map (·.2)=some 254:=by kernel_rfl
theorem eC:Tryz.prog.types.size=324:=by kernel_rfl
theorem cr:((List.range 324).filter fun t=>Tryz.prog.rowNamed t [101,114,114,111,114])= [40]:=by kernel_rfl
abbrev Iz{H:Type}:List (String×DataW H):= [("errors.errorType",Rows.laid_errors_errorType)]
theorem Oo{W:World}(h:laidMetH Tryz.prog Iz W):W.cell? ⟨0,0,none⟩=some (.iface 254 (.agg #[.pointer (some ⟨1,40,none⟩)])):=by
  have h':laidMet Tryz.prog [] W/\handlesMet Tryz.prog Iz W:=h;obtain⟨name,u,ty,e1,e2,e3,e4,e5⟩:=h'.2 _ (List.mem_singleton.2 rfl);have en:name= [101,114,114,111,114]:=(Option.some.inj e1).symm;subst en;obtain rfl:=Option.some.inj (lq.symm.trans e2);have hm:ty∈(List.range 324).filter fun t=>Tryz.prog.rowNamed t [101,114,114,111,114]:=List.mem_filter.2 ⟨List.mem_range.2 (by rw [<-eC];exact e3),e4⟩
  rw [cr] at hm
  obtain rfl:=List.mem_singleton.1 hm;have hh:typeHandle Tryz.prog 40= .pointer (some ⟨1,40,none⟩):=by kernel_rfl
  rw [hh] at e5
  simpa using World.var?_cell mx e5 0
theorem UG{W:World}(h:laidMetH Tryz.prog Iz W):Cd.Zg (wh W):=by
  have hc:=Oo h;refine⟨fun k v hk=> ?_⟩;have fe:k=0:=by
    have:=(List.getElem?_eq_some_iff.1 hk).1;simp at this;exact this
  subst fe;simp only [List.getElem?_cons_zero,Option.some.injEq] at hk
  subst hk;simp only [World.cell?] at hc
  split at hc
  · rename_i c T fz he
    exact⟨⟨0,0,none⟩,c,T,fz,rfl,rfl,MX.2 he,by simpa using hc⟩
  · cases hc
noncomputable def JW(os:Os):World:=
  let w0:=World.holding Tryz.prog os ⟨#[], #[],[]⟩
  {w0 with heap:=w0.heap.modify 0 fun
      | .cells _ t frozen=> .cells #[.iface 254 (.agg #[.pointer (some ⟨1,40,none⟩)])] t frozen
      |o=>o}
theorem Ih(os:Os)(args:Array Value):laidMetH Tryz.prog Iz ((JW os).forCall (fun _ _=>0) ⟨#[],args,[]⟩).memory:=
  laidMetH_of_parts (laidMet_nil _ _) Ac
end Go.Proofs.YtcnmnmjmpocepaaGreatDoor
