
import Derived.Test.YtcnmnmjmpocepaaGreatDoorU04
set_option linter.unusedVariables false
set_option linter.unusedSimpArgs false
set_option linter.unusedSectionVars false
set_option maxRecDepth 100000
set_option maxHeartbeats 16000000
namespace Go.SL
theorem Ft{P:Program}{k:IntKind}{j:Int}{y:Nat}{code:BoundsCode}(h0:0≤j)(h1:j≤y)(w:World):(Instr.sliceBound (.int k j) y code).run P w= .ok j.toNat w:=by
  simp [Instr.sliceBound,asIntOf,h0,h1]
def sub(base:Option Addr)(l m sz:Nat):Option Addr:=if m=l then base else base.map (·.add (l*sz))
theorem sub_zero(base:Option Addr)(m sz:Nat):sub base 0 m sz=base:=by
  unfold sub;split
  · rfl
  · cases base <;>simp [add_zero']
section
variable {P:Program} {own:List B6} {n:Nat} {env:Env} {o:Oper}
theorem Gl{t e:TypeId}{sz:Nat}{x y:Operand}{base:Option Addr}{len cap:Nat}{k:IntKind}{j:Int} [h1:Ns P t e sz](ho:o.op= .slice t x none (some y) none)(hx:ev env x=some (.slice base len cap))(hy:ev env y=some (.int k j))
    (h0:0≤j) (hj:j≤cap):Dc P own n o env (.slice base j.toNat cap):=
  De (by rw [ho];rfl) fun a w ha=>by
    have hs:=sub_zero base cap sz;unfold sub at hs
    simp only [Nat.zero_mul] at hs
    simp [execOp,ho,ha.eval hx,ha.eval hy,Instr.sliceAt,Instr.slice,Instr.sliceBounds,CL h1.u,h1.s,Ft h0 hj];intro h;rw [if_neg h] at hs;exact hs
theorem G0{t e:TypeId}{sz:Nat}{x y:Operand}{base:Option Addr}{len cap:Nat}{k:IntKind}{j:Int} [h1:Ns P t e sz](ho:o.op= .slice t x (some y) none none)(hx:ev env x=some (.slice base len cap))(hy:ev env y=some (.int k j))
    (h0:0≤j) (hj:j≤len):Dc P own n o env (.slice (sub base j.toNat cap sz) (len - j.toNat) (cap - j.toNat)):=
  De (by rw [ho];rfl) fun a w ha=>by
    simp [execOp,ho,ha.eval hx,ha.eval hy,Instr.sliceAt,Instr.slice,Instr.sliceBounds,CL h1.u,h1.s,Ft h0 hj,sub]
end
section
variable {P:Program} {own:List B6} {n:Nat} {env:Env} {o:Oper}
theorem D2{t:TypeId}{x:Operand}{k:Nat}{base:Option Addr}{cs:List Value}{v:Value} [ty:Zq P t](ho:o.op= .load t x)(hx:ev env x=some (Q7 base k))(m:C0 own base cs)(hv:cs[k]?=some v):Dc P own n o env v:=Wl ho hx hv
theorem Iw{t:TypeId}{x:Operand}{k:Nat}{base:Option Addr}{cs:List Value}{v u:Value} [ty:Y6 P t 2](ho:o.op= .load t x)(hx:ev env x=some (Q7 base k))(m:C0 own base cs)(hv:cs[k]?=some v)(hu:cs[k+1]?=some u):Dc P own n o env (.agg ⟨[v,u]⟩):=
  HI (vs:= [v,u]) ho hx (Nat.succ_pos 1) rfl fun j w hj=>by
    match j,hj with
    |0,hj=>simp at hj;subst hj;exact hv
    |1,hj=>simp at hj;subst hj;exact hu
end
theorem Sl.take{h:B6}{base:Option Addr}{cs:List Value}(s:Sl h base cs)(k:Nat):Sl h base (cs.take k):=
  ⟨fun j v hj=>s.cell j v (by rw [List.getElem?_take] at hj;split at hj <;>first|exact hj|cases hj)⟩
theorem Sl.drop{h:B6}{base:Option Addr}{cs:List Value}(s:Sl h base cs)(l m sz:Nat)(hl:cs.length≤m*sz):Sl h (sub base l m sz) (cs.drop (l*sz)):=
  ⟨fun j v hj=>by
    rw [List.getElem?_drop] at hj
    obtain⟨a,arr,T,fz,h1,h2,h3,h4⟩:=s.cell _ v hj;have Em:=(List.getElem?_eq_some_iff.1 hj).1;have LC:m≠l:=fun e=>by subst e;omega
    obtain⟨b,off,sp⟩:=a;simp only at h2;subst h2;subst h1
    refine⟨⟨b,off+l*sz,Option.none⟩,arr,T,fz,?_,rfl,h3,by simpa [Nat.add_assoc] using h4⟩;simp [sub,LC,DX]⟩
section
variable {P:Program} {r:Option Nat} {F:B6} {n:Nat} {Q:C4} {env:Env} {own own' rest:List B6} {ds:List Deferred}
end
def kindOf:Op->Nat
  | .move _| .assign _| .pick .. | .extract .. | .makeFunc .. =>0
  | .unOp .. =>0
  | .binOp op .. =>match op with
    | .eql| .neq| .lss| .leq| .gtr| .geq=>2
    |_=>1
  | .load .. | .fieldAddr .. | .indexAddr .. | .index .. | .field .. =>3
  | .call _=>4
  |_=>5
theorem gk(k:Nat){q:Bool}{P:Program}{r:Option Nat}{F:B6}{n:Nat}{Q:C4}{env:Env}{own:List B6}{ds:List Deferred}{all:Array Oper}{l:List Oper}{o:Oper}(_:kindOf o.op=k)
    (h:C6 q P r F n all (o::l) Q env own ds):C6 q P r F n all (o::l) Q env own ds:=h
end Go.SL
