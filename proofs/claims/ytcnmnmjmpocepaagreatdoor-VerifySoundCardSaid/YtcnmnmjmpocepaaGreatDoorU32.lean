
import Derived.Test.YtcnmnmjmpocepaaGreatDoorU00
import Derived.Test.YtcnmnmjmpocepaaGreatDoorU11
import Derived.Test.YtcnmnmjmpocepaaGreatDoorU13
import Derived.Test.YtcnmnmjmpocepaaGreatDoorU10
import Derived.WalkKit
import Derived.LaidEql
import Derived.Stop.Asserts
import Derived.RowKitTokens
set_option linter.unusedVariables false
set_option linter.unusedSimpArgs false
set_option linter.unusedSectionVars false
set_option maxRecDepth 100000
set_option maxHeartbeats 16000000
section
namespace Go.Proofs.YtcnmnmjmpocepaaGreatDoor.Cd
open Go.RowKit Go.Extern.Stop Go.Stop Go.Extern
theorem Tryz.L3(t:Addr)(w:World):(ReflectliteValue.unpack (.iface 147 (.pointer (some t)))).run Tryz.prog w
    = .ok (.agg #[.pointer (some ⟨1,147,none⟩),.pointer (some ⟨w.heap.size,0,none⟩),.int .u64 150]) (w.alloc (.cells #[.pointer (some t)] 147)):=by kernel_rfl
theorem Tryz.type87(a:Addr)(w:World):(ReflectliteValue.methodAny (ReflectliteValue.valueError "reflectlite.Value.Type" 0) (fun t _ _ _=>ReflectliteType.toType t) #[.agg #[.pointer (some ⟨1,147,none⟩),.pointer (some a),.int .u64 150]]).run Tryz.prog w
    = .ok (.iface 254 (.agg #[.pointer (some ⟨1,147,none⟩)])) w:=by kernel_rfl
theorem Tryz.KJ(h:Value)(w:World):(Go.method 424 254 (.agg #[h]) "Kind").run Tryz.prog w= .ok (218,h) w:=by kernel_rfl
theorem Tryz.Um(w:World):((ReflectliteType.abiMethod fun t=>(fun a:Nat=>Value.int IntKind.u8 (a:Int)) <$>Rtype.kind t) #[.pointer (some ⟨1,147,none⟩)]).run Tryz.prog w= .ok (.int .u8 22) w:=by kernel_rfl
theorem Tryz.Un(w:World):((ReflectliteType.abiMethod fun t=>(fun a:Nat=>Value.int IntKind.u8 (a:Int)) <$>Rtype.kind t) #[.pointer (some ⟨1,145,none⟩)]).run Tryz.prog w= .ok (.int .u8 22) w:=by kernel_rfl
theorem eD(z:Sem Value)(f:TypeId->Addr->Nat->Nat->Sem Value)(v:Value):
    ReflectliteValue.method z f #[v]=(do match <-ReflectliteValue.parts v with|none=>z|some (t,a,fl)=>f t a fl (fl%32)):=rfl
theorem Tryz.Lm(a:Addr)(w:World):(ReflectliteValue.parts (.agg #[.pointer (some ⟨1,147,none⟩),.pointer (some a),.int .u64 150])).run Tryz.prog w= .ok (some (147,a,150)) w:=by kernel_rfl
theorem Tryz.QU(a p:Addr)(W:World)(ha:W.cell? a=some (.pointer (some p))):
    (ReflectliteValue.method (ReflectliteValue.valueError "reflectlite.Value.IsNil" 0) ReflectliteValue.isNil #[.agg #[.pointer (some ⟨1,147,none⟩),.pointer (some a),.int .u64 150]]).run Tryz.prog W= .ok (.bool false) W:=by
  rw [eD];simp only [Sem.run_bind,Tryz.Lm,Result.andThen];simp [ReflectliteValue.isNil,loadVar,isAgg,underlying,Tryz.underlying147,ha,Result.andThen]
theorem Tryz.KK(h:Value)(w:World):(Go.method 424 254 (.agg #[h]) "Elem").run Tryz.prog w= .ok (232,.agg #[h]) w:=by kernel_rfl
theorem Tryz.GP(h:Value)(w:World):(Go.method 424 254 (.agg #[h]) "Implements").run Tryz.prog w= .ok (233,.agg #[h]) w:=by kernel_rfl
theorem Tryz.Gg(h:Value)(w:World):(Go.method 424 254 (.agg #[h]) "AssignableTo").run Tryz.prog w= .ok (230,.agg #[h]) w:=by kernel_rfl
theorem Tryz.UK(w:World):(ReflectliteType.method ReflectliteType.elem #[.agg #[.pointer (some ⟨1,147,none⟩)]]).run Tryz.prog w= .ok (.iface 254 (.agg #[.pointer (some ⟨1,145,none⟩)])) w:=by kernel_rfl
theorem Tryz.IU(w:World):(ReflectliteType.relation "Implements" ReflectliteType.implements_ #[.agg #[.pointer (some ⟨1,145,none⟩)],.iface 254 (.agg #[.pointer (some ⟨1,40,none⟩)])]).run Tryz.prog w= .ok (.bool true) w:=by kernel_rfl
theorem Tryz.Nx(v:Value)(w:World):(ReflectliteType.typeOf #[.iface 145 v]).run Tryz.prog w= .ok (.iface 254 (.agg #[.pointer (some ⟨1,145,none⟩)])) w:=by kernel_rfl
theorem Tryz.I5(w:World):(ReflectliteType.relation "AssignableTo" ReflectliteType.assignableTo #[.agg #[.pointer (some ⟨1,145,none⟩)],.iface 254 (.agg #[.pointer (some ⟨1,145,none⟩)])]).run Tryz.prog w= .ok (.bool true) w:=by kernel_rfl
theorem Tryz.L4(e:Addr)(w:World):(ReflectliteValue.unpack (.iface 145 (.pointer (some e)))).run Tryz.prog w
    = .ok (.agg #[.pointer (some ⟨1,145,none⟩),.pointer (some ⟨w.heap.size,0,none⟩),.int .u64 150]) (w.alloc (.cells #[.pointer (some e)] 145)):=by kernel_rfl
theorem Tryz.Oz(w:World):(Rtype.elem? 147).run Tryz.prog w= .ok (some 145) w:=by kernel_rfl
theorem Tryz.cD(p:Addr)(w:World):(ReflectliteValue.mk 145 p ReflectliteValue.flagAddr).run Tryz.prog w= .ok (.agg #[.pointer (some ⟨1,145,none⟩),.pointer (some p),.int .u64 406]) w:=by kernel_rfl
theorem Tryz.Q8(a p:Addr)(W:World)(ha:W.cell? a=some (.pointer (some p))):
    (ReflectliteValue.method (ReflectliteValue.valueError "reflectlite.Value.Elem" 0) ReflectliteValue.elem #[.agg #[.pointer (some ⟨1,147,none⟩),.pointer (some a),.int .u64 150]]).run Tryz.prog W
      = .ok (.agg #[.pointer (some ⟨1,145,none⟩),.pointer (some p),.int .u64 406]) W:=by
  rw [eD];simp only [Sem.run_bind,Tryz.Lm,Result.andThen];simp [ReflectliteValue.elem,loadVar,isAgg,underlying,Tryz.underlying147,ha,Result.andThen,Tryz.Oz,Tryz.cD]
theorem ia(v x:Value):ReflectliteValue.set #[v,x]=(do
    let (some (dst,a,fl),some (src,b,_)):=(<-ReflectliteValue.parts v,<-ReflectliteValue.parts x)
      |unsupported (.noEntry "extern/(internal/reflectlite.Value).Set.zeroValue")
    if fl/ReflectliteValue.flagAddr%2 ==0 then unsupported (.noEntry "extern/(internal/reflectlite.Value).Set.unaddressable")
    let val <-loadVar src b
    if <-Rtype.directlyAssignable dst src then storeVar dst a val
    else if <-Rtype.implements dst src then
      if(<-Rtype.kind src) ==20 then
        match val with
        | .nilIface=>unsupported (.noEntry "extern/reflectlite: a nil value of one interface type handed on as a value of another")
        |_=>storeVar dst a val
      else storeVar dst a (.iface src val)
    else panicString ("reflectlite.Set: value of type " ++(<-Rtype.spelt src)++ " is not assignable to type " ++(<-Rtype.spelt dst))
    pure (.tuple #[])):=rfl
theorem Tryz.NU(a:Addr)(w:World):(ReflectliteValue.parts (.agg #[.pointer (some ⟨1,145,none⟩),.pointer (some a),.int .u64 406])).run Tryz.prog w= .ok (some (145,a,406)) w:=by kernel_rfl
theorem Tryz.QC(a:Addr)(w:World):(ReflectliteValue.parts (.agg #[.pointer (some ⟨1,145,none⟩),.pointer (some a),.int .u64 150])).run Tryz.prog w= .ok (some (145,a,150)) w:=by kernel_rfl
theorem Tryz.OA(w:World):(Rtype.directlyAssignable 145 145).run Tryz.prog w= .ok true w:=by kernel_rfl
theorem Tryz.XM(ta b e:Addr)(old:Value)(W:World)(hb:W.cell? b=some (.pointer (some e)))(ht:W.cell? ta=some old)(hf:W.frozen? ta=false):
    (ReflectliteValue.set #[.agg #[.pointer (some ⟨1,145,none⟩),.pointer (some ta),.int .u64 406],.agg #[.pointer (some ⟨1,145,none⟩),.pointer (some b),.int .u64 150]]).run Tryz.prog W
      = .ok (.tuple #[]) (W.setCell ta (.pointer (some e))):=by
  rw [ia];simp only [Sem.run_bind,Tryz.NU,Tryz.QC,Result.andThen];simp [ReflectliteValue.flagAddr,loadVar,isAgg,underlying,Tryz.underlying145,hb,Result.andThen,Tryz.OA,storeVar,Value.cells,storeCells,Addr.add];rw [run_store Tryz.prog W ta _ _ As];simp [ht,hf]
theorem Tryz.Nw(v:Value)(w:World):(ReflectliteType.typeOf #[.iface 180 v]).run Tryz.prog w= .ok (.iface 254 (.agg #[.pointer (some ⟨1,180,none⟩)])) w:=by kernel_rfl
theorem Tryz.I4(w:World):(ReflectliteType.relation "AssignableTo" ReflectliteType.assignableTo #[.agg #[.pointer (some ⟨1,180,none⟩)],.iface 254 (.agg #[.pointer (some ⟨1,145,none⟩)])]).run Tryz.prog w= .ok (.bool false) w:=by kernel_rfl
theorem Tryz.Xr(v:Value)(w:World):(Instr.typeAssert (.iface 180 v) 40 259 true).run Tryz.prog w= .ok (.tuple #[.nilIface,.bool false]) w:=run_typeAssert_lacksB Tryz.underlying259 Ac Ac v 40 w
theorem Tryz.Xq(v:Value)(w:World):(Instr.typeAssert (.iface 180 v) 40 262 true).run Tryz.prog w= .ok (.tuple #[.iface 180 v,.bool true]) w:=run_typeAssert_hasB Tryz.underlying262 Ac v 40 w
theorem Tryz.IN(v:Value)(w:World):(Go.method 424 180 v "Unwrap").run Tryz.prog w= .ok (225,v) w:=by kernel_rfl
set_option maxRecDepth 100000 in
set_option maxHeartbeats 4000000 in
theorem Re(e t:Addr)(old:Value)(w:World)(hg:w.cell? ⟨0,0,none⟩=some (.iface 254 (.agg #[.pointer (some ⟨1,40,none⟩)])))(Z9:w.cell? t=some old)(Xg:w.frozen? t=false):
    Calls Tryz.prog 64 #[.iface 180 (.agg #[.pointer (some e)]),.iface 147 (.pointer (some t))] w fun ev w'=>ev= .returned (.bool true)/\w'=(((((w.alloc (.cells #[.pointer (some t)] 147)).alloc (.cells #[.pointer (some ⟨1,147,none⟩),.pointer (some ⟨w.heap.size,0,none⟩),.int .u64 150] 196)).alloc (.cells #[.pointer (some ⟨1,147,none⟩),.pointer (some ⟨w.heap.size,0,none⟩),.int .u64 150] 196)).alloc (.cells #[.pointer (some e)] 180)).alloc (.cells #[.pointer (some e)] 145)).setCell t (.pointer (some e)):=by
  have h54:= @run_callFunc_extern Tryz.prog 111 _ (fun args=>ReflectliteValue.unpack (args.getD 0 (.tuple #[]))) Tryz.func111 Ac Ac Ac Ac;have h55:= @run_callFunc_extern Tryz.prog 112 _ (ReflectliteValue.methodAny (ReflectliteValue.valueError "reflectlite.Value.Type" 0) (fun t _ _ _=>ReflectliteType.toType t)) Tryz.func112 Ac Ac Ac Ac
  have h56:= @run_callFunc_extern Tryz.prog 113 _ (ReflectliteValue.method (ReflectliteValue.valueError "reflectlite.Value.IsNil" 0) ReflectliteValue.isNil) Tryz.func113 Ac Ac Ac Ac
  have h89:= @run_callFunc_extern Tryz.prog 218 _ (ReflectliteType.abiMethod fun t=>do pure (.int .u8 (<-Rtype.kind t))) Tryz.func218 Ac Ac Ac Ac;have h102:= @run_callFunc_extern Tryz.prog 232 _ (ReflectliteType.method ReflectliteType.elem) Tryz.func232 Ac Ac Ac Ac;have h103:= @run_callFunc_extern Tryz.prog 233 _ (ReflectliteType.relation "Implements" ReflectliteType.implements_) Tryz.func233 Ac Ac Ac Ac
  have h69:= @run_callFunc_extern Tryz.prog 158 _ ReflectliteType.typeOf Tryz.func158 Ac Ac Ac Ac;have h100:= @run_callFunc_extern Tryz.prog 230 _ (ReflectliteType.relation "AssignableTo" ReflectliteType.assignableTo) Tryz.func230 Ac Ac Ac Ac
  have h70:= @run_callFunc_extern Tryz.prog 159 _ (ReflectliteValue.method (ReflectliteValue.valueError "reflectlite.Value.Elem" 0) ReflectliteValue.elem) Tryz.func159 Ac Ac Ac Ac
  have h71:= @run_callFunc_extern Tryz.prog 160 _ ReflectliteValue.set Tryz.func160 Ac Ac Ac Ac;have tO:=Tryz.Nx;have tO74:=Tryz.Nw;have a74:=Tryz.I4;have mU:=Tryz.IN;have tA:=Tryz.Xr;have tU:=Tryz.Xq;have mA:=Tryz.Gg;have a25:=Tryz.I5;have v25:=Tryz.L4;have f6:=Tryz.L3;have f7:=Tryz.type87;have mK:=Tryz.KJ;have mE:=Tryz.KK;have mI:=Tryz.GP;have k27:=Tryz.Um;have k25:=Tryz.Un;have e27:=Tryz.UK;have i25:=Tryz.IU;have n8:=Tryz.QU ⟨w.heap.size,0,none⟩ t ((w.alloc (.cells #[.pointer (some t)] 147)).alloc (.cells #[.pointer (some ⟨1,147,none⟩),.pointer (some ⟨w.heap.size,0,none⟩),.int .u64 150] 196)) Ak;have Em:0<w.heap.size:=by
    rcases Nat.eq_zero_or_pos w.heap.size with h0|h
    · simp [World.cell?,h0] at hg
    · exact h
  have iM:((w.alloc (.cells #[.pointer (some t)] 147)).alloc (.cells #[.pointer (some ⟨1,147,none⟩),.pointer (some ⟨w.heap.size,0,none⟩),.int .u64 150] 196)).cell? ⟨0,0,none⟩=some (.iface 254 (.agg #[.pointer (some ⟨1,40,none⟩)])):=by
    rw [World.cell?_alloc_lt _ _ ⟨0,0,none⟩ Ak,World.cell?_alloc_lt _ _ ⟨0,0,none⟩ Em];exact hg
  have htl:t.block<w.heap.size:=by
    rcases Nat.lt_or_ge t.block w.heap.size with h|h
    · exact h
    · simp [World.cell?,Array.getElem?_eq_none h] at Z9
  have el:=Tryz.Q8 ⟨w.heap.size,0,none⟩ t ((((w.alloc (.cells #[.pointer (some t)] 147)).alloc (.cells #[.pointer (some ⟨1,147,none⟩),.pointer (some ⟨w.heap.size,0,none⟩),.int .u64 150] 196)).alloc (.cells #[.pointer (some ⟨1,147,none⟩),.pointer (some ⟨w.heap.size,0,none⟩),.int .u64 150] 196)).alloc (.cells #[.pointer (some e)] 180)) (by rw [World.cell?_alloc_lt _ _ ⟨w.heap.size,0,none⟩ Aq,World.cell?_alloc_lt _ _ ⟨w.heap.size,0,none⟩ Aq];simp);have st:=Tryz.XM t ⟨w.heap.size+1+1+1+1,0,none⟩ e old (((((w.alloc (.cells #[.pointer (some t)] 147)).alloc (.cells #[.pointer (some ⟨1,147,none⟩),.pointer (some ⟨w.heap.size,0,none⟩),.int .u64 150] 196)).alloc (.cells #[.pointer (some ⟨1,147,none⟩),.pointer (some ⟨w.heap.size,0,none⟩),.int .u64 150] 196)).alloc (.cells #[.pointer (some e)] 180)).alloc (.cells #[.pointer (some e)] 145))
    (by rw [World.cell?_alloc_at _ _ _ _ Ak];rfl)
    (by rw [World.cell?_alloc_lt _ _ t Aq,World.cell?_alloc_lt _ _ t Aq,World.cell?_alloc_lt _ _ t Aq,World.cell?_alloc_lt _ _ t Aq,World.cell?_alloc_lt _ _ t htl];exact Z9)
    (by rw [World.frozen?_alloc_old _ _ t Aq,World.frozen?_alloc_old _ _ t Aq,World.frozen?_alloc_old _ _ t Aq,World.frozen?_alloc_old _ _ t Aq,World.frozen?_alloc_old _ _ t (Nat.ne_of_lt htl)];exact Xg)
  go_enter Tryz.func64,Tryz.ntmps64
  go_wp2
  refine wp_loop_rounds 2 ?_;rw [rounds_succ]
  go_wp2
  rw [rounds_succ]
  go_wp2
  go_ret
  exact⟨rfl,rfl⟩
end Go.Proofs.YtcnmnmjmpocepaaGreatDoor.Cd
end
section
namespace Go.Proofs.YtcnmnmjmpocepaaGreatDoor.Cd
open Go.RowKit
open Go.SL
theorem Jm{hs:List B6}{W:World}{b:Nat}{old v:Value}{T:TypeId}(s:Sat (SL.Co b (.cells ⟨[old]⟩ T (0,0))::hs) W):Sat (SL.Co b (.cells ⟨[v]⟩ T (0,0))::hs) (W.setCell ⟨b,0,none⟩ v):=by
  have hb5:=s.at (List.mem_cons_self ..) (CT _ _);refine s.put (o':= .cells ⟨[v]⟩ T (0,0)) ?_ rfl rfl (fun k hk=> ?_) (fun _=>rfl)
  · simp only [World.setCell,Array.getElem?_modify,hb5];simp
  · simp only [World.setCell,Array.getElem?_modify];rw [if_neg (Ne.symm hk)]
theorem du{G:B6} [sg:Sl G (some ⟨0,0,none⟩) [.iface 254 (.agg #[.pointer (some ⟨1,40,none⟩)])]](e:Addr)(b:Nat)(old:Value):
    SL.T Tryz.prog 64 [.iface 180 (.agg ⟨[.pointer (some e)]⟩),.iface 147 (.pointer (some ⟨b,0,none⟩))] [SL.Co b (.cells ⟨[old]⟩ 145 (0,0)),G] fun ev o=>ev= .returned (.bool true)/\o= [SL.Co b (.cells ⟨[.pointer (some e)]⟩ 145 (0,0)),G]:=by
  intro w X s;have hb:w.heap[b]?=some (.cells ⟨[old]⟩ 145 (0,0)):=s.at (List.mem_cons_self ..) (CT _ _);have hg:w.cell? ⟨0,0,none⟩=some (.iface 254 (.agg #[.pointer (some ⟨1,40,none⟩)])):=by
    have si:C0 [SL.Co b (.cells ⟨[old]⟩ 145 (0,0)),G] (some ⟨0,0,none⟩) [.iface 254 (.agg #[.pointer (some ⟨1,40,none⟩)])]:=⟨G,by simp,sg⟩;obtain⟨a',e1,e2,e3⟩:=si.cell s (k:=0) rfl;cases e1;exact e3
  have hblt:b<w.heap.size:=(Array.getElem?_eq_some_iff.1 hb).1;refine(Re e ⟨b,0,none⟩ old w hg (by rw [Gf hb];rfl) (by rw [World.frozen?,hb];rfl)).mono ?_;rintro ev w' ⟨rfl,rfl⟩;refine⟨_,?_,rfl,rfl⟩;have s5:=(ED (ED (ED (ED (ED s (.cells #[.pointer (some ⟨b,0,none⟩)] 147)).tail (.cells #[.pointer (some ⟨1,147,none⟩),.pointer (some ⟨w.heap.size,0,none⟩),.int .u64 150] 196)).tail (.cells #[.pointer (some ⟨1,147,none⟩),.pointer (some ⟨w.heap.size,0,none⟩),.int .u64 150] 196)).tail (.cells #[.pointer (some e)] 180)).tail (.cells #[.pointer (some e)] 145)).tail;exact Jm s5
end Go.Proofs.YtcnmnmjmpocepaaGreatDoor.Cd
end
section
namespace Go.Proofs.YtcnmnmjmpocepaaGreatDoor.Va
open Go.RowKit Go.Extern.Stop Go.Stop Go.Extern
theorem Tryz.L3(t:Addr)(w:World):(ReflectliteValue.unpack (.iface 147 (.pointer (some t)))).run Tryz.prog w
    = .ok (.agg #[.pointer (some ⟨1,147,none⟩),.pointer (some ⟨w.heap.size,0,none⟩),.int .u64 150]) (w.alloc (.cells #[.pointer (some t)] 147)):=by kernel_rfl
theorem Tryz.type87(a:Addr)(w:World):(ReflectliteValue.methodAny (ReflectliteValue.valueError "reflectlite.Value.Type" 0) (fun t _ _ _=>ReflectliteType.toType t) #[.agg #[.pointer (some ⟨1,147,none⟩),.pointer (some a),.int .u64 150]]).run Tryz.prog w
    = .ok (.iface 254 (.agg #[.pointer (some ⟨1,147,none⟩)])) w:=by kernel_rfl
theorem Tryz.KJ(h:Value)(w:World):(Go.method 424 254 (.agg #[h]) "Kind").run Tryz.prog w= .ok (218,h) w:=by kernel_rfl
theorem Tryz.Um(w:World):((ReflectliteType.abiMethod fun t=>(fun a:Nat=>Value.int IntKind.u8 (a:Int)) <$>Rtype.kind t) #[.pointer (some ⟨1,147,none⟩)]).run Tryz.prog w= .ok (.int .u8 22) w:=by kernel_rfl
theorem Tryz.Un(w:World):((ReflectliteType.abiMethod fun t=>(fun a:Nat=>Value.int IntKind.u8 (a:Int)) <$>Rtype.kind t) #[.pointer (some ⟨1,145,none⟩)]).run Tryz.prog w= .ok (.int .u8 22) w:=by kernel_rfl
theorem eD(z:Sem Value)(f:TypeId->Addr->Nat->Nat->Sem Value)(v:Value):
    ReflectliteValue.method z f #[v]=(do match <-ReflectliteValue.parts v with|none=>z|some (t,a,fl)=>f t a fl (fl%32)):=rfl
theorem Tryz.Lm(a:Addr)(w:World):(ReflectliteValue.parts (.agg #[.pointer (some ⟨1,147,none⟩),.pointer (some a),.int .u64 150])).run Tryz.prog w= .ok (some (147,a,150)) w:=by kernel_rfl
theorem Tryz.QU(a p:Addr)(W:World)(ha:W.cell? a=some (.pointer (some p))):
    (ReflectliteValue.method (ReflectliteValue.valueError "reflectlite.Value.IsNil" 0) ReflectliteValue.isNil #[.agg #[.pointer (some ⟨1,147,none⟩),.pointer (some a),.int .u64 150]]).run Tryz.prog W= .ok (.bool false) W:=by
  rw [eD];simp only [Sem.run_bind,Tryz.Lm,Result.andThen];simp [ReflectliteValue.isNil,loadVar,isAgg,underlying,Tryz.underlying147,ha,Result.andThen]
theorem Tryz.KK(h:Value)(w:World):(Go.method 424 254 (.agg #[h]) "Elem").run Tryz.prog w= .ok (232,.agg #[h]) w:=by kernel_rfl
theorem Tryz.GP(h:Value)(w:World):(Go.method 424 254 (.agg #[h]) "Implements").run Tryz.prog w= .ok (233,.agg #[h]) w:=by kernel_rfl
theorem Tryz.Gg(h:Value)(w:World):(Go.method 424 254 (.agg #[h]) "AssignableTo").run Tryz.prog w= .ok (230,.agg #[h]) w:=by kernel_rfl
theorem Tryz.UK(w:World):(ReflectliteType.method ReflectliteType.elem #[.agg #[.pointer (some ⟨1,147,none⟩)]]).run Tryz.prog w= .ok (.iface 254 (.agg #[.pointer (some ⟨1,145,none⟩)])) w:=by kernel_rfl
theorem Tryz.IU(w:World):(ReflectliteType.relation "Implements" ReflectliteType.implements_ #[.agg #[.pointer (some ⟨1,145,none⟩)],.iface 254 (.agg #[.pointer (some ⟨1,40,none⟩)])]).run Tryz.prog w= .ok (.bool true) w:=by kernel_rfl
theorem Tryz.Nx(v:Value)(w:World):(ReflectliteType.typeOf #[.iface 145 v]).run Tryz.prog w= .ok (.iface 254 (.agg #[.pointer (some ⟨1,145,none⟩)])) w:=by kernel_rfl
theorem Tryz.I5(w:World):(ReflectliteType.relation "AssignableTo" ReflectliteType.assignableTo #[.agg #[.pointer (some ⟨1,145,none⟩)],.iface 254 (.agg #[.pointer (some ⟨1,145,none⟩)])]).run Tryz.prog w= .ok (.bool true) w:=by kernel_rfl
theorem Tryz.L4(e:Addr)(w:World):(ReflectliteValue.unpack (.iface 145 (.pointer (some e)))).run Tryz.prog w
    = .ok (.agg #[.pointer (some ⟨1,145,none⟩),.pointer (some ⟨w.heap.size,0,none⟩),.int .u64 150]) (w.alloc (.cells #[.pointer (some e)] 145)):=by kernel_rfl
theorem Tryz.Oz(w:World):(Rtype.elem? 147).run Tryz.prog w= .ok (some 145) w:=by kernel_rfl
theorem Tryz.cD(p:Addr)(w:World):(ReflectliteValue.mk 145 p ReflectliteValue.flagAddr).run Tryz.prog w= .ok (.agg #[.pointer (some ⟨1,145,none⟩),.pointer (some p),.int .u64 406]) w:=by kernel_rfl
theorem Tryz.Q8(a p:Addr)(W:World)(ha:W.cell? a=some (.pointer (some p))):
    (ReflectliteValue.method (ReflectliteValue.valueError "reflectlite.Value.Elem" 0) ReflectliteValue.elem #[.agg #[.pointer (some ⟨1,147,none⟩),.pointer (some a),.int .u64 150]]).run Tryz.prog W
      = .ok (.agg #[.pointer (some ⟨1,145,none⟩),.pointer (some p),.int .u64 406]) W:=by
  rw [eD];simp only [Sem.run_bind,Tryz.Lm,Result.andThen];simp [ReflectliteValue.elem,loadVar,isAgg,underlying,Tryz.underlying147,ha,Result.andThen,Tryz.Oz,Tryz.cD]
theorem ia(v x:Value):ReflectliteValue.set #[v,x]=(do
    let (some (dst,a,fl),some (src,b,_)):=(<-ReflectliteValue.parts v,<-ReflectliteValue.parts x)
      |unsupported (.noEntry "extern/(internal/reflectlite.Value).Set.zeroValue")
    if fl/ReflectliteValue.flagAddr%2 ==0 then unsupported (.noEntry "extern/(internal/reflectlite.Value).Set.unaddressable")
    let val <-loadVar src b
    if <-Rtype.directlyAssignable dst src then storeVar dst a val
    else if <-Rtype.implements dst src then
      if(<-Rtype.kind src) ==20 then
        match val with
        | .nilIface=>unsupported (.noEntry "extern/reflectlite: a nil value of one interface type handed on as a value of another")
        |_=>storeVar dst a val
      else storeVar dst a (.iface src val)
    else panicString ("reflectlite.Set: value of type " ++(<-Rtype.spelt src)++ " is not assignable to type " ++(<-Rtype.spelt dst))
    pure (.tuple #[])):=rfl
theorem Tryz.NU(a:Addr)(w:World):(ReflectliteValue.parts (.agg #[.pointer (some ⟨1,145,none⟩),.pointer (some a),.int .u64 406])).run Tryz.prog w= .ok (some (145,a,406)) w:=by kernel_rfl
theorem Tryz.QC(a:Addr)(w:World):(ReflectliteValue.parts (.agg #[.pointer (some ⟨1,145,none⟩),.pointer (some a),.int .u64 150])).run Tryz.prog w= .ok (some (145,a,150)) w:=by kernel_rfl
theorem Tryz.OA(w:World):(Rtype.directlyAssignable 145 145).run Tryz.prog w= .ok true w:=by kernel_rfl
theorem Tryz.XM(ta b e:Addr)(old:Value)(W:World)(hb:W.cell? b=some (.pointer (some e)))(ht:W.cell? ta=some old)(hf:W.frozen? ta=false):
    (ReflectliteValue.set #[.agg #[.pointer (some ⟨1,145,none⟩),.pointer (some ta),.int .u64 406],.agg #[.pointer (some ⟨1,145,none⟩),.pointer (some b),.int .u64 150]]).run Tryz.prog W
      = .ok (.tuple #[]) (W.setCell ta (.pointer (some e))):=by
  rw [ia];simp only [Sem.run_bind,Tryz.NU,Tryz.QC,Result.andThen];simp [ReflectliteValue.flagAddr,loadVar,isAgg,underlying,Tryz.underlying145,hb,Result.andThen,Tryz.OA,storeVar,Value.cells,storeCells,Addr.add];rw [run_store Tryz.prog W ta _ _ As];simp [ht,hf]
theorem Tryz.Nw(v:Value)(w:World):(ReflectliteType.typeOf #[.iface 163 v]).run Tryz.prog w= .ok (.iface 254 (.agg #[.pointer (some ⟨1,163,none⟩)])) w:=by kernel_rfl
theorem Tryz.I4(w:World):(ReflectliteType.relation "AssignableTo" ReflectliteType.assignableTo #[.agg #[.pointer (some ⟨1,163,none⟩)],.iface 254 (.agg #[.pointer (some ⟨1,145,none⟩)])]).run Tryz.prog w= .ok (.bool false) w:=by kernel_rfl
theorem Tryz.Xr(v:Value)(w:World):(Instr.typeAssert (.iface 163 v) 40 259 true).run Tryz.prog w= .ok (.tuple #[.nilIface,.bool false]) w:=run_typeAssert_lacksB Tryz.underlying259 Ac Ac v 40 w
theorem Tryz.Xq(v:Value)(w:World):(Instr.typeAssert (.iface 163 v) 40 262 true).run Tryz.prog w= .ok (.tuple #[.iface 163 v,.bool true]) w:=run_typeAssert_hasB Tryz.underlying262 Ac v 40 w
theorem Tryz.IN(v:Value)(w:World):(Go.method 424 163 v "Unwrap").run Tryz.prog w= .ok (224,v) w:=by kernel_rfl
set_option maxRecDepth 100000 in
set_option maxHeartbeats 4000000 in
theorem Re(e t:Addr)(old:Value)(w:World)(hg:w.cell? ⟨0,0,none⟩=some (.iface 254 (.agg #[.pointer (some ⟨1,40,none⟩)])))(Z9:w.cell? t=some old)(Xg:w.frozen? t=false):
    Calls Tryz.prog 64 #[.iface 163 (.agg #[.pointer (some e)]),.iface 147 (.pointer (some t))] w fun ev w'=>ev= .returned (.bool true)/\w'=(((((w.alloc (.cells #[.pointer (some t)] 147)).alloc (.cells #[.pointer (some ⟨1,147,none⟩),.pointer (some ⟨w.heap.size,0,none⟩),.int .u64 150] 196)).alloc (.cells #[.pointer (some ⟨1,147,none⟩),.pointer (some ⟨w.heap.size,0,none⟩),.int .u64 150] 196)).alloc (.cells #[.pointer (some e)] 163)).alloc (.cells #[.pointer (some e)] 145)).setCell t (.pointer (some e)):=by
  have h54:= @run_callFunc_extern Tryz.prog 111 _ (fun args=>ReflectliteValue.unpack (args.getD 0 (.tuple #[]))) Tryz.func111 Ac Ac Ac Ac;have h55:= @run_callFunc_extern Tryz.prog 112 _ (ReflectliteValue.methodAny (ReflectliteValue.valueError "reflectlite.Value.Type" 0) (fun t _ _ _=>ReflectliteType.toType t)) Tryz.func112 Ac Ac Ac Ac
  have h56:= @run_callFunc_extern Tryz.prog 113 _ (ReflectliteValue.method (ReflectliteValue.valueError "reflectlite.Value.IsNil" 0) ReflectliteValue.isNil) Tryz.func113 Ac Ac Ac Ac
  have h89:= @run_callFunc_extern Tryz.prog 218 _ (ReflectliteType.abiMethod fun t=>do pure (.int .u8 (<-Rtype.kind t))) Tryz.func218 Ac Ac Ac Ac;have h102:= @run_callFunc_extern Tryz.prog 232 _ (ReflectliteType.method ReflectliteType.elem) Tryz.func232 Ac Ac Ac Ac;have h103:= @run_callFunc_extern Tryz.prog 233 _ (ReflectliteType.relation "Implements" ReflectliteType.implements_) Tryz.func233 Ac Ac Ac Ac
  have h69:= @run_callFunc_extern Tryz.prog 158 _ ReflectliteType.typeOf Tryz.func158 Ac Ac Ac Ac;have h100:= @run_callFunc_extern Tryz.prog 230 _ (ReflectliteType.relation "AssignableTo" ReflectliteType.assignableTo) Tryz.func230 Ac Ac Ac Ac
  have h70:= @run_callFunc_extern Tryz.prog 159 _ (ReflectliteValue.method (ReflectliteValue.valueError "reflectlite.Value.Elem" 0) ReflectliteValue.elem) Tryz.func159 Ac Ac Ac Ac
  have h71:= @run_callFunc_extern Tryz.prog 160 _ ReflectliteValue.set Tryz.func160 Ac Ac Ac Ac;have tO:=Tryz.Nx;have tO74:=Tryz.Nw;have a74:=Tryz.I4;have mU:=Tryz.IN;have tA:=Tryz.Xr;have tU:=Tryz.Xq;have mA:=Tryz.Gg;have a25:=Tryz.I5;have v25:=Tryz.L4;have f6:=Tryz.L3;have f7:=Tryz.type87;have mK:=Tryz.KJ;have mE:=Tryz.KK;have mI:=Tryz.GP;have k27:=Tryz.Um;have k25:=Tryz.Un;have e27:=Tryz.UK;have i25:=Tryz.IU;have n8:=Tryz.QU ⟨w.heap.size,0,none⟩ t ((w.alloc (.cells #[.pointer (some t)] 147)).alloc (.cells #[.pointer (some ⟨1,147,none⟩),.pointer (some ⟨w.heap.size,0,none⟩),.int .u64 150] 196)) Ak;have Em:0<w.heap.size:=by
    rcases Nat.eq_zero_or_pos w.heap.size with h0|h
    · simp [World.cell?,h0] at hg
    · exact h
  have iM:((w.alloc (.cells #[.pointer (some t)] 147)).alloc (.cells #[.pointer (some ⟨1,147,none⟩),.pointer (some ⟨w.heap.size,0,none⟩),.int .u64 150] 196)).cell? ⟨0,0,none⟩=some (.iface 254 (.agg #[.pointer (some ⟨1,40,none⟩)])):=by
    rw [World.cell?_alloc_lt _ _ ⟨0,0,none⟩ Ak,World.cell?_alloc_lt _ _ ⟨0,0,none⟩ Em];exact hg
  have htl:t.block<w.heap.size:=by
    rcases Nat.lt_or_ge t.block w.heap.size with h|h
    · exact h
    · simp [World.cell?,Array.getElem?_eq_none h] at Z9
  have el:=Tryz.Q8 ⟨w.heap.size,0,none⟩ t ((((w.alloc (.cells #[.pointer (some t)] 147)).alloc (.cells #[.pointer (some ⟨1,147,none⟩),.pointer (some ⟨w.heap.size,0,none⟩),.int .u64 150] 196)).alloc (.cells #[.pointer (some ⟨1,147,none⟩),.pointer (some ⟨w.heap.size,0,none⟩),.int .u64 150] 196)).alloc (.cells #[.pointer (some e)] 163)) (by rw [World.cell?_alloc_lt _ _ ⟨w.heap.size,0,none⟩ Aq,World.cell?_alloc_lt _ _ ⟨w.heap.size,0,none⟩ Aq];simp);have st:=Tryz.XM t ⟨w.heap.size+1+1+1+1,0,none⟩ e old (((((w.alloc (.cells #[.pointer (some t)] 147)).alloc (.cells #[.pointer (some ⟨1,147,none⟩),.pointer (some ⟨w.heap.size,0,none⟩),.int .u64 150] 196)).alloc (.cells #[.pointer (some ⟨1,147,none⟩),.pointer (some ⟨w.heap.size,0,none⟩),.int .u64 150] 196)).alloc (.cells #[.pointer (some e)] 163)).alloc (.cells #[.pointer (some e)] 145))
    (by rw [World.cell?_alloc_at _ _ _ _ Ak];rfl)
    (by rw [World.cell?_alloc_lt _ _ t Aq,World.cell?_alloc_lt _ _ t Aq,World.cell?_alloc_lt _ _ t Aq,World.cell?_alloc_lt _ _ t Aq,World.cell?_alloc_lt _ _ t htl];exact Z9)
    (by rw [World.frozen?_alloc_old _ _ t Aq,World.frozen?_alloc_old _ _ t Aq,World.frozen?_alloc_old _ _ t Aq,World.frozen?_alloc_old _ _ t Aq,World.frozen?_alloc_old _ _ t (Nat.ne_of_lt htl)];exact Xg)
  go_enter Tryz.func64,Tryz.ntmps64
  go_wp2
  refine wp_loop_rounds 2 ?_;rw [rounds_succ]
  go_wp2
  rw [rounds_succ]
  go_wp2
  go_ret
  exact⟨rfl,rfl⟩
end Go.Proofs.YtcnmnmjmpocepaaGreatDoor.Va
end
section
namespace Go.Proofs.YtcnmnmjmpocepaaGreatDoor.Va
open Go.RowKit
open Go.SL
theorem Jm{hs:List B6}{W:World}{b:Nat}{old v:Value}{T:TypeId}(s:Sat (SL.Co b (.cells ⟨[old]⟩ T (0,0))::hs) W):Sat (SL.Co b (.cells ⟨[v]⟩ T (0,0))::hs) (W.setCell ⟨b,0,none⟩ v):=by
  have hb5:=s.at (List.mem_cons_self ..) (CT _ _);refine s.put (o':= .cells ⟨[v]⟩ T (0,0)) ?_ rfl rfl (fun k hk=> ?_) (fun _=>rfl)
  · simp only [World.setCell,Array.getElem?_modify,hb5];simp
  · simp only [World.setCell,Array.getElem?_modify];rw [if_neg (Ne.symm hk)]
theorem du{G:B6} [sg:Sl G (some ⟨0,0,none⟩) [.iface 254 (.agg #[.pointer (some ⟨1,40,none⟩)])]](e:Addr)(b:Nat)(old:Value):
    SL.T Tryz.prog 64 [.iface 163 (.agg ⟨[.pointer (some e)]⟩),.iface 147 (.pointer (some ⟨b,0,none⟩))] [SL.Co b (.cells ⟨[old]⟩ 145 (0,0)),G] fun ev o=>ev= .returned (.bool true)/\o= [SL.Co b (.cells ⟨[.pointer (some e)]⟩ 145 (0,0)),G]:=by
  intro w X s;have hb:w.heap[b]?=some (.cells ⟨[old]⟩ 145 (0,0)):=s.at (List.mem_cons_self ..) (CT _ _);have hg:w.cell? ⟨0,0,none⟩=some (.iface 254 (.agg #[.pointer (some ⟨1,40,none⟩)])):=by
    have si:C0 [SL.Co b (.cells ⟨[old]⟩ 145 (0,0)),G] (some ⟨0,0,none⟩) [.iface 254 (.agg #[.pointer (some ⟨1,40,none⟩)])]:=⟨G,by simp,sg⟩;obtain⟨a',e1,e2,e3⟩:=si.cell s (k:=0) rfl;cases e1;exact e3
  have hblt:b<w.heap.size:=(Array.getElem?_eq_some_iff.1 hb).1;refine(Re e ⟨b,0,none⟩ old w hg (by rw [Gf hb];rfl) (by rw [World.frozen?,hb];rfl)).mono ?_;rintro ev w' ⟨rfl,rfl⟩;refine⟨_,?_,rfl,rfl⟩;have s5:=(ED (ED (ED (ED (ED s (.cells #[.pointer (some ⟨b,0,none⟩)] 147)).tail (.cells #[.pointer (some ⟨1,147,none⟩),.pointer (some ⟨w.heap.size,0,none⟩),.int .u64 150] 196)).tail (.cells #[.pointer (some ⟨1,147,none⟩),.pointer (some ⟨w.heap.size,0,none⟩),.int .u64 150] 196)).tail (.cells #[.pointer (some e)] 163)).tail (.cells #[.pointer (some e)] 145)).tail;exact Jm s5
end Go.Proofs.YtcnmnmjmpocepaaGreatDoor.Va
end
