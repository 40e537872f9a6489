
import Derived.Test.YtcnmnmjmpocepaaGreatDoorV01
set_option linter.unusedVariables false
set_option linter.unusedSimpArgs false
set_option linter.unusedSectionVars false
set_option maxRecDepth 100000
set_option maxHeartbeats 16000000
section
namespace Go.SL
class Ty (P:Program) (t:TypeId) (d:outParam TypeDesc) (z:outParam Value) (i:outParam TypeInfo):Prop where
  u:P.underlying t=some d
  z:∀w,(zeroValue t).run P w= .ok z w
  i:P.info? t=some i
def Ox:TypeDesc->Bool
  | .struct _| .array _ _=>true
  |_=>false
section
variable {P:Program}
theorem Di{t:TypeId}{d:TypeDesc}(h:P.underlying t=some d)(w:World):(underlying t).run P w= .ok d w:=by simp [underlying,h]
theorem I3{t:TypeId}{i:TypeInfo}(h:P.info? t=some i)(w:World):(typeInfo t).run P w= .ok i w:=by simp [typeInfo,h]
theorem Ej{t:TypeId}{i:TypeInfo}(h:P.info? t=some i)(w:World):(sizeOf t).run P w= .ok i.size w:=by simp [sizeOf,I3 h]
theorem Pj{t:TypeId}{d:TypeDesc}(h:P.underlying t=some d)(w:World):(isAgg t).run P w= .ok (Ox d) w:=by
  simp only [isAgg,Sem.run_bind,Di h,Result.andThen];cases d <;>rfl
end
theorem Es(b o k:Nat):Addr.add ⟨b,o,none⟩ k=⟨b,o+k,none⟩:=by
  unfold Addr.add;split
  · rename_i e;rw [e];rfl
  · rfl
class Hz (P:Program) (t:TypeId) (k:Nat) (off:outParam Nat):Prop where
  run:∀a w,(Instr.fieldAt t (.pointer (some a)) k).run P w= .ok (.pointer (some (a.add off))) w
theorem Dv{P:Program}{t:TypeId}{k off:Nat}{fs:Array Field}{f:Field}{i:TypeInfo}(h1:P.underlying t=some (.struct fs))(h2:fs[k]?=some f)(h3:P.info? f.type=some i)(h4:Nat.blt 0 i.size=true)(h5:f.offset=off):Hz P t k off:=
  ⟨fun a w=>by
    subst h5;have hz:i.size≠0:=by have:=Nat.le_of_ble_eq_true h4;omega
    simp [Instr.fieldAt,Di h1,h2,Instr.sureAddr,fieldPlace,Ej h3,hz]⟩
def nth{α:Type}:List α->Nat->Option α
  | [],_=>none
  |x::_,0=>some x
  |_::r,k+1=>nth r k
theorem P9{α:Type}:∀ {l:List α} {k:Nat},nth l k=l[k]?:=by
  intro l;induction l with
  |nil=>intro k;rfl
  | cons x r ih=>intro k;cases k with
    |zero=>rfl
    |succ k=>simp [nth,ih]
def nO{α:Type}:List α->Nat->α->Option (List α)
  | [],_,_=>none
  |_::r,0,v=>some (v::r)
  | x::r,k+1,v=>match nO r k v with
    |some r'=>some (x::r')
    |none=>none
def RT{α:Type}:List α->Nat->Option (List α)
  |_,0=>some []
  | [],_+1=>none
  | x::r,k+1=>match RT r k with
    |some r'=>some (x::r')
    |none=>none
theorem Us{α:Type}:∀ {l l':List α} {k:Nat},RT l k=some l'->l'=l.take k/\k≤l.length:=by
  intro l;induction l with
  | nil=>intro l' k h;cases k with
    |zero=>cases h;simp
    |succ k=>cases h
  | cons x r ih=>intro l' k h;cases k with
    |zero=>cases h;simp
    | succ k=>
      simp only [RT] at h
      cases e:RT r k with
      |none=>rw [e] at h;cases h
      |some r'=>rw [e] at h;cases h;obtain⟨h1,h2⟩:=ih e;simp [h1,h2]
def YK{α:Type}:List α->Nat->Option (List α)
  |l,0=>some l
  | [],_+1=>none
  |_::r,k+1=>YK r k
theorem VN{α:Type}:∀ {l l':List α} {k:Nat},YK l k=some l'->l'=l.drop k/\k≤l.length:=by
  intro l;induction l with
  | nil=>intro l' k h;cases k with
    |zero=>cases h;simp
    |succ k=>cases h
  | cons x r ih=>intro l' k h;cases k with
    |zero=>cases h;simp
    |succ k=>obtain⟨h1,h2⟩:=ih h;simp [h1,h2]
def EA:Value->Option (List Value)
  | .agg ⟨l⟩=>some l
  |v=>some [v]
theorem Fg{v:Value}{l:List Value}(h:EA v=some l):v.cells=l.toArray:=by
  unfold EA at h
  split at h
  · cases h;rfl
  · cases h;rename_i hv;cases v <;>first|rfl|(exfalso;rename_i a;exact hv a.toList rfl)
section
variable {P:Program} {own:List CA} {n:Nat} {env:Env} {o:Oper}
theorem DC{v:Value}(hp:EX o.op=true)(h:∀a w,Has n env a->(execOp a.eval o).run P w= .ok (.value v) w):DG P own n o env v:=
  ⟨hp,fun a w _ ha s=>⟨w,s,.inl (h a w ha)⟩⟩
theorem Dh{x:Operand}{v:Value}(ho:o.op= .move x)(h:ev env x=some v):DG P own n o env v:=
  DC (by rw [ho];rfl) fun a w ha=>by simp [execOp,ho,ha.eval h]
theorem Db{x:Operand}{v:Value}(ho:o.op= .assign x)(h:ev env x=some v):DG P own n o env v:=
  DC (by rw [ho];rfl) fun a w ha=>by simp [execOp,ho,ha.eval h]
theorem DS{c x y:Operand}{v:Value}(ho:o.op= .pick c x y)(hc:ev env c=some (.bool true))(h:ev env x=some v):DG P own n o env v:=
  DC (by rw [ho];rfl) fun a w ha=>by simp [execOp,ho,ha.eval h,ha.eval hc,asBool]
theorem DY{c x y:Operand}{v:Value}(ho:o.op= .pick c x y)(hc:ev env c=some (.bool false))(h:ev env y=some v):DG P own n o env v:=
  DC (by rw [ho];rfl) fun a w ha=>by simp [execOp,ho,ha.eval h,ha.eval hc,asBool]
theorem Eg{x:Operand}{t:TypeId}(ho:o.op= .unOp .not t x)(h:ev env x=some (.bool true)):DG P own n o env (.bool false):=
  DC (by rw [ho];rfl) fun a w ha=>by simp [execOp,ho,ha.eval h,Op.unary]
theorem EU{x:Operand}{t:TypeId}(ho:o.op= .unOp .not t x)(h:ev env x=some (.bool false)):DG P own n o env (.bool true):=
  DC (by rw [ho];rfl) fun a w ha=>by simp [execOp,ho,ha.eval h,Op.unary]
theorem LF{x:Operand}{b:Bool}{t:TypeId}(ho:o.op= .unOp .not t x)(h:ev env x=some (.bool b)):DG P own n o env (.bool (!b)):=
  DC (by rw [ho];rfl) fun a w ha=>by simp [execOp,ho,ha.eval h,Op.unary]
theorem Ey{x:Operand}{l:List Value}{k:Nat}{v:Value}(ho:o.op= .extract x k)(h:ev env x=some (.tuple ⟨l⟩))(hk:nth l k=some v):DG P own n o env v:=
  DC (by rw [ho];rfl) fun a w ha=>by
    rw [P9] at hk
    have:(⟨l⟩:Array Value)[k]?=some v:=by simpa using hk
    simp [execOp,ho,ha.eval h,Instr.extract,this]
theorem Eu{fn:Fn}{xs ys:Array Operand}{vs us:List Value}(ho:o.op= .makeFunc fn xs ys)(h1:OW env xs.toList=some vs)(h2:OW env ys.toList=some us):
    DG P own n o env (.func fn ⟨vs⟩ ⟨us⟩):=
  DC (by rw [ho];rfl) fun a w ha=>by
    have e1:xs.map a.eval=⟨vs⟩:=Array.ext' (by simpa using Lk ha h1);have e2:ys.map a.eval=⟨us⟩:=Array.ext' (by simpa using Lk ha h2);simp [execOp,ho,Instr.makeFunc,e1,e2]
theorem GO{op:BinOp}{t u:TypeId}{x y:Operand}{k:IntKind}{a b:Int}{v:Value}(ho:o.op= .binOp op t x y u)(hx:ev env x=some (.int k a))(hy:ev env y=some (.int k b))
    (h:∀w,(binOp op t (.int k a) (.int k b)).run P w= .ok v w):DG P own n o env v:=
  DC (by rw [ho];rfl) fun c w ha=>by
    have hg:∀w,(eqGuard op t x y (.int k a) (.int k b)).run P w= .ok () w:=fun w=>by
      unfold eqGuard;cases op <;>simp
    simp only [execOp,ho,ha.eval hx,ha.eval hy];simp [hg,h]
theorem Ie{t u:TypeId}{x y:Operand}{k:IntKind}{a b:Int}(ho:o.op= .binOp .add t x y u)(hx:ev env x=some (.int k a))(hy:ev env y=some (.int k b)):DG P own n o env (.int k (k.wrap (a+b))):=
  GO ho hx hy fun w=>by simp [binOp,Op.intArith]
theorem Dz{x:Int}(h1: -9223372036854775808≤x)(h2:x≤9223372036854775807):IntKind.i64.wrap x=x:=by
  simp only [IntKind.wrap,IntKind.bits,IntKind.signed,Bool.true_and]
  split
  · rename_i h;simp at h;omega
  · rename_i h;simp at h;omega
theorem H4{t u:TypeId}{x y:Operand}{a b:Int}(ho:o.op= .binOp .add t x y u)(hx:ev env x=some (.int .i64 a))(hy:ev env y=some (.int .i64 b))(h1: -9223372036854775808≤a+b)(h2:a+b≤9223372036854775807):DG P own n o env (.int .i64 (a+b)):=
  GO ho hx hy fun w=>by simp [binOp,Op.intArith,Dz h1 h2]
theorem LD{t u:TypeId}{x y:Operand}{a b:Int}(ho:o.op= .binOp .sub t x y u)(hx:ev env x=some (.int .i64 a))(hy:ev env y=some (.int .i64 b))(h1: -9223372036854775808≤a - b)(h2:a - b≤9223372036854775807):DG P own n o env (.int .i64 (a - b)):=
  GO ho hx hy fun w=>by simp [binOp,Op.intArith,Dz h1 h2]
theorem Fu{t u:TypeId}{x y:Operand}{k:IntKind}{a b:Int}(ho:o.op= .binOp .mul t x y u)(hx:ev env x=some (.int k a))(hy:ev env y=some (.int k b)):DG P own n o env (.int k (k.wrap (a*b))):=
  GO ho hx hy fun w=>by simp [binOp,Op.intArith]
theorem TI{t u:TypeId}{x y:Operand}{k:IntKind}{a b:Int}(ho:o.op= .binOp .quo t x y u)(hx:ev env x=some (.int k a))(hy:ev env y=some (.int k b))(h0:b≠0):DG P own n o env (.int k (k.wrap (a.tdiv b))):=
  GO ho hx hy fun w=>by simp [binOp,Op.intDiv,h0]
theorem Jo{t u:TypeId}{x y:Operand}{k:IntKind}{a b:Int}(ho:o.op= .binOp .rem t x y u)(hx:ev env x=some (.int k a))(hy:ev env y=some (.int k b))(h0:b≠0):DG P own n o env (.int k (a.tmod b)):=
  GO ho hx hy fun w=>by simp [binOp,Op.intDiv,h0]
theorem HG{t u:TypeId}{x y:Operand}{k:IntKind}{a b:Int}(ho:o.op= .binOp .lss t x y u)(hx:ev env x=some (.int k a))(hy:ev env y=some (.int k b)):DG P own n o env (.bool (decide (a<b))):=
  GO ho hx hy fun w=>by simp [binOp,Op.intCmp]
theorem Nh{t u:TypeId}{x y:Operand}{k:IntKind}{a b:Int}(ho:o.op= .binOp .leq t x y u)(hx:ev env x=some (.int k a))(hy:ev env y=some (.int k b)):DG P own n o env (.bool (decide (a≤b))):=
  GO ho hx hy fun w=>by simp [binOp,Op.intCmp]
theorem Jq{t u:TypeId}{x y:Operand}{k:IntKind}{a b:Int}(ho:o.op= .binOp .gtr t x y u)(hx:ev env x=some (.int k a))(hy:ev env y=some (.int k b)):DG P own n o env (.bool (decide (b<a))):=
  GO ho hx hy fun w=>by simp [binOp,Op.intCmp]
theorem IP{t u:TypeId}{x y:Operand}{k:IntKind}{a b:Int}(ho:o.op= .binOp .geq t x y u)(hx:ev env x=some (.int k a))(hy:ev env y=some (.int k b)):DG P own n o env (.bool (decide (b≤a))):=
  GO ho hx hy fun w=>by simp [binOp,Op.intCmp]
theorem Ic{t u:TypeId}{x y:Operand}{k:IntKind}{a b:Int}(ho:o.op= .binOp .eql t x y u)(hx:ev env x=some (.int k a))(hy:ev env y=some (.int k b)):DG P own n o env (.bool (decide (a=b))):=
  GO ho hx hy fun w=>by
    have:(a ==b)=decide (a=b):=by cases h:decide (a=b) <;>simp_all
    simp [binOp,Op.intCmp,this]
theorem Kb{t u:TypeId}{x y:Operand}{k:IntKind}{a b:Int}(ho:o.op= .binOp .neq t x y u)(hx:ev env x=some (.int k a))(hy:ev env y=some (.int k b)):DG P own n o env (.bool (decide (a≠b))):=
  GO ho hx hy fun w=>by
    have:(a !=b)=decide (a≠b):=by by_cases h:a=b <;>simp [h,bne]
    simp [binOp,Op.intCmp,this]
def QT(op:BinOp)(k:IntKind)(a b:Int):Int:=
  let x:=BitVec.ofInt k.bits a
  let y:=BitVec.ofInt k.bits b
  k.wrap ((match op with| .and=>x &&& y| .or=>x |||y| .xor=>x ^^^y|_=>x &&& ~~~y).toNat:Nat)
theorem Ni{op:BinOp}{t u:TypeId}{x y:Operand}{k:IntKind}{a b:Int}(ho:o.op= .binOp op t x y u)(hx:ev env x=some (.int k a))(hy:ev env y=some (.int k b))
    (RG:op= .and∨op= .or∨op= .xor∨op= .andNot):DG P own n o env (.int k (QT op k a b)):=
  GO ho hx hy fun w=>by rcases RG with rfl|rfl|rfl|rfl <;>simp [binOp,Op.intBits,QT]
def shl(k:IntKind)(a b:Int):Int:=k.wrap (a*2^(min b.toNat k.bits))
def shr(k:IntKind)(a b:Int):Int:=a.fdiv (2^(min b.toNat k.bits))
theorem Ng{t u:TypeId}{x y:Operand}{k k':IntKind}{a b:Int}(ho:o.op= .binOp .shl t x y u)(hx:ev env x=some (.int k a))(hy:ev env y=some (.int k' b))(h0:0≤b):DG P own n o env (.int k (shl k a b)):=
  DC (by rw [ho];rfl) fun c w ha=>by
    have:¬b<0:=by omega
    simp [execOp,ho,ha.eval hx,ha.eval hy,eqGuard,binOp,Op.shift,this,shl]
theorem TH{t u:TypeId}{x y:Operand}{k k':IntKind}{a b:Int}(ho:o.op= .binOp .shr t x y u)(hx:ev env x=some (.int k a))(hy:ev env y=some (.int k' b))(h0:0≤b):DG P own n o env (.int k (shr k a b)):=
  DC (by rw [ho];rfl) fun c w ha=>by
    have:¬b<0:=by omega
    simp [execOp,ho,ha.eval hx,ha.eval hy,eqGuard,binOp,Op.shift,this,shr]
theorem C8{s t:TypeId}{ks kt:IntKind}{x:Operand}{a:Int}{z zt:Value}{i j:TypeInfo} [h1:Ty P s (.int ks) z i] [h2:Ty P t (.int kt) zt j](ho:o.op= .convert s t x)(hx:ev env x=some (.int ks a)):DG P own n o env (.int kt (kt.wrap a)):=
  DC (by rw [ho];rfl) fun c w ha=>by
    simp [execOp,ho,ha.eval hx,convert,Di h1.u,Di h2.u,Conv.intToInt]
theorem DG.to{v v':Value}(h:DG P own n o env v)(e:v=v'):DG P own n o env v':=e▸h
theorem TJ{t:TypeId}{e:TypeId}{z:Value}{i:TypeInfo}{c:Call}{x:Operand}{base:Option Addr}{len cap:Nat} [h1:Ty P t (.slice e) z i](ho:o.op= .call c)(hc:c.callee= .builtin .len)(Jc:c.args= #[x])(FD:c.argTypes= #[t])
    (hx:ev env x=some (.slice base len cap)):DG P own n o env (.int .i64 len):=
  DC (by rw [ho];rfl) fun a w ha=>by
    simp [execOp,ho,resolve,hc,Jc,FD,invoke,builtin,Builtin.len_,ha.eval hx,Di h1.u,goInt]
theorem Jp{c:Call}{x y:Operand}{k:IntKind}{a b:Int}(ho:o.op= .call c)(hc:c.callee= .builtin .min)(Jc:c.args= #[x,y])
    (hx:ev env x=some (.int k a)) (hy:ev env y=some (.int k b)):DG P own n o env (.int k (min a b)):=
  DC (by rw [ho];rfl) fun d w ha=>by
    have:(if b<a then b else a)=min a b:=by rw [Int.min_def];split <;>split <;>omega
    simp [execOp,ho,resolve,hc,Jc,invoke,builtin,Builtin.min_,Builtin.min2,ha.eval hx,ha.eval hy,this]
theorem Dg{t:TypeId}{x:Operand}{k:Nat}{off fo:Nat}{b:Nat} [h1:Hz P t k fo](ho:o.op= .fieldAddr t x k)(hx:ev env x=some (.pointer (some ⟨b,off,none⟩))):
    DG P own n o env (.pointer (some ⟨b,off+fo,none⟩)):=
  DC (by rw [ho];rfl) fun a w ha=>by
    have:=h1.run ⟨b,off,none⟩ w;rw [Es] at this
    simp [execOp,ho,ha.eval hx,this]
end
end Go.SL
end
section
namespace Go.SL
theorem Hf{w:World}{b k:Nat}{arr:Array Value}{t:TypeId}{fz:Nat×Nat}(h:w.heap[b]?=some (.cells arr t fz)):w.cell? ⟨b,k,none⟩=arr[k]?:=by
  simp [World.cell?,h]
theorem setRow_other(w:World)(g k:Nat)(cs:Array Value)(h:k≠g):(w.setRow g cs).heap[k]?=w.heap[k]?:=by
  unfold World.setRow;simp only [Array.getElem?_modify];rw [if_neg (fun e=>h e.symm)]
def F5{α:Type}:List α->Nat->List α->Option (List α)
  |l,0,[]=>some l
  | [],0,_::_=>none
  | _::l,0,v::vs=>match F5 l 0 vs with
    |some r=>some (v::r)
    |none=>none
  | [],_+1,_=>none
  | x::l,k+1,vs=>match F5 l k vs with
    |some r=>some (x::r)
    |none=>none
theorem Ml{α:Type}:∀ {l r:List α} {k:Nat} {vs:List α},F5 l k vs=some r->r=l.take k++vs++l.drop (k+vs.length)/\k+vs.length≤l.length:=by
  intro l;induction l with
  | nil=>
    intro r k vs h;cases k with
    | zero=>cases vs with
      |nil=>cases h;simp
      |cons v vs=>cases h
    |succ k=>cases h
  | cons x l ih=>
    intro r k vs h;cases k with
    | zero=>cases vs with
      |nil=>cases h;simp
      | cons v vs=>
        simp only [F5] at h
        cases e:F5 l 0 vs with
        |none=>rw [e] at h;cases h
        |some r'=>rw [e] at h;cases h;obtain⟨h1,h2⟩:=ih e;simp at h1 h2;subst h1;simp [h2]
    | succ k=>
      simp only [F5] at h
      cases e:F5 l k vs with
      |none=>rw [e] at h;cases h
      | some r'=>
        rw [e] at h;cases h;obtain⟨h1,h2⟩:=ih e;subst h1
        have:k+1+vs.length=(k+vs.length)+1:=by omega
        simp [this,h2]
section
variable {P:Program} {own:List CA} {n:Nat} {env:Env} {o:Oper}
theorem M6{t:TypeId}{d:TypeDesc}{z:Value}{i:TypeInfo} [ty:Ty P t d z i](ha:Ox d=false){w:World}{a:Addr}{v:Value}(h:w.cell? a=some v):(loadVar t a).run P w= .ok v w:=by
  simp [loadVar,Pj ty.u,ha,h]
theorem M5{t:TypeId}{d:TypeDesc}{z:Value}{i:TypeInfo} [ty:Ty P t d z i](ha:Ox d=true){w:World}{a:Addr}{vs:List Value}(hl:vs.length=i.size)(h:∀j v,vs[j]?=some v->w.cell? (a.add j)=some v):
    (loadVar t a).run P w= .ok (.agg ⟨vs⟩) w:=by
  have:=run_loadCells_list (P:=P) w a vs h;simp [loadVar,Pj ty.u,ha,Ej ty.i,<-hl,this]
theorem DU{t T:TypeId}{d:TypeDesc}{z v:Value}{i:TypeInfo}{x:Operand}{b off:Nat}{cs:List Value}{fz:Nat×Nat} [ty:Ty P t d z i](ho:o.op= .load t x)(ha:Ox d=false)(hx:ev env x=some (.pointer (some ⟨b,off,none⟩)))
    [m:At own b (.cells ⟨cs⟩ T fz)] (hv:nth cs off=some v):DG P own n o env v:=
  ⟨by rw [ho];rfl,fun a w X hA s=>⟨w,s,.inl (by
    rw [P9] at hv
    have:w.cell? ⟨b,off,none⟩=some v:=by rw [Hf (m.get s)];simpa using hv
    simp [execOp,ho,hA.eval hx,Instr.loadAt,Instr.sureAddr,M6 (P:=P) (t:=t) ha this])⟩⟩
theorem Fc{t T:TypeId}{d:TypeDesc}{z:Value}{i:TypeInfo}{x:Operand}{b off:Nat}{cs ds vs:List Value}{fz:Nat×Nat} [ty:Ty P t d z i](ho:o.op= .load t x)(ha:Ox d=true)(hx:ev env x=some (.pointer (some ⟨b,off,none⟩)))
    [m:At own b (.cells ⟨cs⟩ T fz)] (hd:YK cs off=some ds) (hv:RT ds i.size=some vs):DG P own n o env (.agg ⟨vs⟩):=
  ⟨by rw [ho];rfl,fun a w X hA s=>⟨w,s,.inl (by
    obtain⟨rfl,h1⟩:=VN hd;obtain⟨rfl,h2⟩:=Us hv;have hl:((cs.drop off).take i.size).length=i.size:=by simp at h2 ⊢;omega
    have hc:∀j v,((cs.drop off).take i.size)[j]?=some v->w.cell? ((⟨b,off,none⟩:Addr).add j)=some v:=fun j v hj=>by
      rw [Es,Hf (m.get s)];rw [List.getElem?_take] at hj
      split at hj
      · rw [List.getElem?_drop] at hj;simpa using hj
      · cases hj
    simp [execOp,ho,hA.eval hx,Instr.loadAt,Instr.sureAddr,M5 (P:=P) (t:=t) ha hl hc])⟩⟩
def Lp(place:Nat->Option (Nat×Nat)):List Value->List (Nat×Value)->Option (List Value)
  |cs,[]=>some cs
  | cs,(i,v)::r=>match place i,EA v with
    | some (off,sz),some vs=>match Nat.beq vs.length sz,F5 cs off vs with
      |true,some cs'=>Lp place cs' r
      |_,_=>none
    |_,_=>none
theorem T1(off:Nat):∀(vs:List Value) (j:Nat) (cs:Array Value),off+j+vs.length≤cs.size->
    (vs.zipIdx j).foldl (fun cs (p:Value×Nat)=>cs.setIfInBounds (off+p.2) p.1) cs=(cs.toList.take (off+j)++vs++cs.toList.drop (off+j+vs.length)).toArray:=by
  intro vs;induction vs with
  |nil=>intro j cs h;simp
  | cons v r ih=>
    intro j cs h;simp only [List.length_cons] at h
    rw [List.zipIdx_cons,List.foldl_cons,ih (j+1) _ As]
    congr 1
    have e:=list_seg_step cs.toList (off+j) v r As;simpa [Array.toList_setIfInBounds,Nat.add_assoc] using e
theorem fill_eq{place:Nat->Option (Nat×Nat)}:∀ {ps:List (Nat×Value)} {cs cs':List Value},Lp place cs ps=some cs'->Instr.fill place ⟨cs⟩ ps=some ⟨cs'⟩:=by
  intro ps;induction ps with
  |nil=>intro cs cs' h;cases h;rfl
  | cons p r ih=>
    obtain⟨i,v⟩:=p;intro cs cs' h;simp only [Lp] at h
    cases h1:place i with
    |none=>rw [h1] at h;cases h
    | some q=>
      obtain⟨off,sz⟩:=q;cases h2:EA v with
      |none=>rw [h1,h2] at h;cases h
      | some vs=>
        rw [h1,h2] at h
        simp only at h
        cases h3:Nat.beq vs.length sz with
        |false=>rw [h3] at h;cases h
        | true=>
          cases h4:F5 cs off vs with
          |none=>rw [h3,h4] at h;cases h
          | some cs2=>
            rw [h3,h4] at h
            simp only at h
            obtain⟨g1,g2⟩:=Ml h4;have hc:=Fg h2;have Hs:v.cells.size=sz:=by rw [hc];simpa using Nat.eq_of_beq_eq_true h3
            have hsz':sz=vs.length:=(Nat.eq_of_beq_eq_true h3).symm;have Sx:¬(off+vs.length>(⟨cs⟩:Array Value).size):=by
              have:(⟨cs⟩:Array Value).size=cs.length:=rfl;omega
            have hif:(decide (v.cells.size≠sz) ||decide (off+v.cells.size>(⟨cs⟩:Array Value).size))=false:=by
              have h7:v.cells.size=vs.length:=by rw [Hs,hsz']
              simp only [h7];simp [hsz'];simpa using g2
            simp only [Instr.fill,h1];have c9:¬(v.cells.size≠sz ||off+v.cells.size>(⟨cs⟩:Array Value).size)=true:=by
              intro hh;have:=hif;simp only [ne_eq,gt_iff_lt] at hh this
              simp_all
            rw [if_neg c9];have hf:v.cells.zipIdx.foldl (fun cs (p:Value×Nat)=>cs.setIfInBounds (off+p.2) p.1) (⟨cs⟩:Array Value)=⟨cs2⟩:=by
              rw [hc];have:=T1 off vs 0 ⟨cs⟩ (by simpa using g2);rw [<-Array.foldl_toList];simp only [Array.toList_zipIdx];simp only [Nat.add_zero] at this
              rw [show(vs.toArray.toList.zipIdx)=vs.zipIdx 0 from rfl];rw [this,g1]
            have:=ih h;rw [<-hf] at this
            exact this
class Py (P:Program) (t:TypeId) (place:outParam (Nat->Option (Nat×Nat))) (zs:outParam (List Value)):Prop where
  run:∀ps cs w,Instr.fill place ⟨zs⟩ ps.toList=some cs->(Instr.build t ps).run P w= .ok (.agg cs) w
def T7(env:Env):List (Nat×Operand)->Option (List (Nat×Value))
  | []=>some []
  | (i,x)::r=>match ev env x with
    | some v=>match T7 env r with
      |some vs=>some ((i,v)::vs)
      |none=>none
    |none=>none
theorem Oo{a:Act}(h:Has n env a):∀ {xs:List (Nat×Operand)} {vs:List (Nat×Value)},T7 env xs=some vs->(xs.map fun p=>(p.1,a.eval p.2))=vs:=by
  intro xs;induction xs with
  |nil=>intro vs e;cases e;rfl
  | cons x r ih=>
    obtain⟨i,x⟩:=x;intro vs e;simp only [T7] at e
    cases h1:ev env x with
    |none=>rw [h1] at e;cases e
    | some v=>
      rw [h1] at e
      cases h2:T7 env r with
      |none=>rw [h2] at e;cases e
      | some ai=>
        rw [h2] at e;cases e
        simp [h.eval h1,ih h2]
theorem H3{t:TypeId}{ps:Array (Nat×Operand)}{place:Nat->Option (Nat×Nat)}{zs cs:List Value}{qs:List (Nat×Value)} [ty:Py P t place zs](ho:o.op= .build t ps)(hp:T7 env ps.toList=some qs)(hb:Lp place zs qs=some cs):
    DG P own n o env (.agg ⟨cs⟩):=
  DC (by rw [ho];rfl) fun a w ha=>by
    have e1:(ps.map fun(p:Nat×Operand)=>(p.1,a.eval p.2))=(⟨qs⟩:Array (Nat×Value)):=Array.ext' (by simpa using Oo ha hp);have:=ty.run ⟨qs⟩ ⟨cs⟩ w (fill_eq hb);simp only [execOp,ho];rw [show(ps.map fun(x:Nat×Operand)=>match x with|(i,x)=>(i,a.eval x))=(⟨qs⟩:Array (Nat×Value)) from e1];simp [this]
theorem WJ{t:TypeId}{fs:Array Field}{zs:List Value}{pl:List (Nat×Nat)}(h1:P.underlying t=some (.struct fs))(h2:∀w,(zeroValue t).run P w= .ok (.agg ⟨zs⟩) w)
    (h3:∀w,(fs.mapM fun f=>do pure (f.offset,<-sizeOf f.type):Sem (Array (Nat×Nat))).run P w= .ok ⟨pl⟩ w):Py P t (fun i=>nth pl i) zs:=
  ⟨fun ps cs w hf=>by
    have he:(fun i=>nth pl i)=fun i=>pl[i]?:=funext fun i=>by rw [P9]
    rw [he] at hf
    have hz:(Value.agg ⟨zs⟩).cells=⟨zs⟩:=rfl;simp at h3
    simp [Instr.build,Di h1,h2,h3,hz,hf]⟩
theorem run_places:∀(fs:List Field) (pl:List (Nat×Nat)) (w:World),(fs.map fun f=>(P.info? f.type).map fun i=>(f.offset,i.size))=pl.map some->
    (fs.mapM fun f=>do pure (f.offset,<-sizeOf f.type):Sem (List (Nat×Nat))).run P w= .ok pl w:=by
  intro fs;induction fs with
  | nil=>intro pl w h;cases pl with
    |nil=>rfl
    |cons p r=>cases h
  | cons f r ih=>
    intro pl w h;cases pl with
    |nil=>cases h
    | cons p pl=>
      simp only [List.map_cons,List.cons.injEq] at h
      cases hi:P.info? f.type with
      |none=>rw [hi] at h;cases h.1
      | some i=>
        rw [hi] at h
        have hp:(f.offset,i.size)=p:=by have:=h.1;simpa using this
        simp only [List.mapM_cons,Sem.run_bind,Ej hi,Result.andThen,Sem.run_pure,ih pl w h.2];rw [hp]
theorem DL{t:TypeId}{fs:Array Field}{zs:List Value}{pl:List (Nat×Nat)}(h1:P.underlying t=some (.struct fs))(h2:∀w,(zeroValue t).run P w= .ok (.agg ⟨zs⟩) w)
    (h3:(fs.toList.map fun f=>(P.info? f.type).map fun i=>(f.offset,i.size))=pl.map some):Py P t (fun i=>nth pl i) zs:=
  WJ (pl:=pl) h1 h2 fun w=>by
    rw [Array.mapM_eq_mapM_toList];have:=run_places (P:=P) fs.toList pl w h3;simp only [Sem.run_map,this,Result.andThen]
instance kF{t e:TypeId}{k:Nat}{zs:List Value}{i j:TypeInfo}{d:TypeDesc}{z:Value} [h1:Ty P t (.array k e) (.agg ⟨zs⟩) i] [h2:Ty P e d z j]:Py P t (fun i=>some (i*j.size,j.size)) zs:=
  ⟨fun ps cs w hf=>by
    have hz:(Value.agg ⟨zs⟩).cells=⟨zs⟩:=rfl;simp [Instr.build,Di h1.u,h1.z,Ej h2.i,hz,hf]⟩
end
section
variable {P:Program} {r:Option Nat} {F:CA} {n:Nat} {Q:DD} {env:Env} {own:List CA} {ds:List Deferred} {all:Array Oper} {l:List Nat} {i:Nat} {o:Oper}
theorem aU{d:Nat}{ob:Obj}(hi:all[i]?=some o)(hd:o.dst=some d)(hn:d<n)(hg:C6 all env o=some true)(hp:EX o.op=true)(hz:∀off,Pt ob off=false)(val:Nat->Value)
    (FE:∀a w,Has n env a->Sat (F::own) w->(execOp a.eval o).run P w= .ok (.value (val w.heap.size)) {w with heap:=w.heap.push ob})
    (h:∀b,SO false P r F n all l Q ((d,val b)::env) (CV b ob::own) ds):SO false P r F n all (i::l) Q env own ds:=by
  intro a w ha OT hs;rw [wpOpsIn_cons];simp only [wpOpIn,hi,Ee ha hg,if_true];refine⟨fun f _=>by simp,?_⟩;rw [Ff,semAt_plain hp,FE a w ha hs,Oper.uponIn_value,hd];exact h w.heap.size _ _ (ha.put _ hn) OT ((EN hs ob hz).swap)
theorem aV{d:Nat}{t:TypeId}{de:TypeDesc}{z:Value}{ti:TypeInfo}{cs:List Value} [ty:Ty P t de z ti](hi:all[i]?=some o)(hd:o.dst=some d)(hn:d<n)(hg:C6 all env o=some true)(ho:o.op= .alloc t)(hz:EA z=some cs)
    (h:∀b,SO false P r F n all l Q ((d,.pointer (some ⟨b,0,none⟩))::env) (CV b (.cells ⟨cs⟩ t (0,0))::own) ds):SO false P r F n all (i::l) Q env own ds:=
  aU hi hd hn hg (by rw [ho];rfl) (fun _=>by simp [Pt]) (fun b=> .pointer (some ⟨b,0,none⟩)) (fun a w _ _=>by
    simp [execOp,ho,Instr.alloc,ty.z,newVar,newRow,Fg hz]) h
theorem jc{d:Nat}{t:TypeId}{x:Operand}{v:Value}{cs:List Value}(hi:all[i]?=some o)(hd:o.dst=some d)(hn:d<n)(hg:C6 all env o=some true)(ho:o.op= .box t x)(hx:ev env x=some v)(hz:EA v=some cs)
    (h:∀b,SO false P r F n all l Q ((d,.pointer (some ⟨b,0,none⟩))::env) (CV b (.cells ⟨cs⟩ t (0,0))::own) ds):SO false P r F n all (i::l) Q env own ds:=
  aU hi hd hn hg (by rw [ho];rfl) (fun _=>by simp [Pt]) (fun b=> .pointer (some ⟨b,0,none⟩)) (fun a w ha _=>by
    simp [execOp,ho,Instr.box,ha.eval hx,newVar,newRow,Fg hz]) h
theorem aT{t T:TypeId}{x y:Operand}{b off:Nat}{v:Value}{cs vs cs':List Value}{own':List CA}{d:TypeDesc}{z:Value}{ti:TypeInfo} [ty:Ty P t d z ti]
    (hi:all[i]?=some o) (hd:o.dst=none) (hg:C6 all env o=some true) (ho:o.op= .store t x y) (hx:ev env x=some (.pointer (some ⟨b,off,none⟩))) (hy:ev env y=some v)
    (hv:EA v=some vs) (Hs:vs.length=ti.size) (h1:vs.all (·.oneCell')=true) [m:At own b (.cells ⟨cs⟩ T (0,0))] (hc:F5 cs off vs=some cs') [pb:Wl own b (.cells ⟨cs⟩ T (0,0)) (.cells ⟨cs'⟩ T (0,0)) own']
    (h:SO false P r F n all l Q env own' ds):SO false P r F n all (i::l) Q env own ds:=by
  intro a w ha OT hs;rw [wpOpsIn_cons];simp only [wpOpIn,hi,Ee ha hg,if_true];refine⟨fun f _=>by simp,?_⟩;obtain⟨g1,g2⟩:=Ml hc;have hb:w.heap[b]?=some (.cells ⟨cs⟩ T (0,0)):=At.get (own:=own) (X:= []) m (by simpa using hs.tail);have Gy:=run_storeCells_at P b off T vs 0 ⟨cs⟩ w hb (by simpa using g2) (by simpa using h1);have LU:((⟨cs⟩:Array Value).toList.take (off+0)++vs++(⟨cs⟩:Array Value).toList.drop (off+0+vs.length)).toArray=⟨cs'⟩:=by rw [g1];rfl
  rw [LU] at Gy
  have ZT:=Fg hv;have FE:(execOp a.eval o).run P w= .ok .skip (w.setRow b ⟨cs'⟩):=by
    simp [execOp,ho,Instr.storeAt,ha.eval hx,ha.eval hy,Instr.sureAddr,storeVar,Ej ty.i,ZT,Hs,Gy]
  rw [Ff,semAt_plain (by rw [ho];rfl),FE,Oper.uponIn_skip,hd];obtain⟨rest,p1,p2⟩:=pb.rest;refine h _ _ ha OT ?_;have s1:Sat (CV b (.cells ⟨cs⟩ T (0,0))::(rest++ [F])) w:=hs.perm ((List.perm_append_comm (l₁:= [F]) (l₂:=own)).trans (p1.append_right [F]));have s2:=s1.put (setRow_heap w b _ ⟨cs'⟩ T (0,0) hb) Av Av (fun k hk=>setRow_other w b k _ hk) (fun _=>rfl);exact s2.perm (((p2.append_right [F]).symm).trans (List.perm_append_comm (l₁:=own') (l₂:= [F])))
end
theorem Gn{P:Program}{own:List CA}{env:Env}{n a:Nat}{t T:TypeId}{d:TypeDesc}{z v:Value}{i:TypeInfo}{b off:Nat}{cs:List Value}{fz:Nat×Nat} [ty:Ty P t d z i](ha:Ox d=false)
    (hx:look env a=some (.pointer (some ⟨b,off,none⟩))) [m:At own b (.cells ⟨cs⟩ T fz)] (hv:nth cs off=some v):Ui P own env n (.cell a t) v:=fun A w X hA s=>by
  rw [P9] at hv
  have h1:w.cell? ⟨b,off,none⟩=some v:=by rw [Hf (m.get s)];simpa using hv
  have h2:A.tmps.getD a undef= .pointer (some ⟨b,off,none⟩):=by rw [Array.getD_eq_getD_getElem?,hA.get _ _ hx];rfl
  simp [PW,h2,asAddr,M6 (P:=P) (t:=t) ha h1]
theorem CR{P:Program}{own:List CA}{env:Env}{n a:Nat}{t T:TypeId}{d:TypeDesc}{z:Value}{i:TypeInfo}{b off:Nat}{cs ds vs:List Value}{fz:Nat×Nat} [ty:Ty P t d z i](ha:Ox d=true)
    (hx:look env a=some (.pointer (some ⟨b,off,none⟩))) [m:At own b (.cells ⟨cs⟩ T fz)] (hd:YK cs off=some ds) (hv:RT ds i.size=some vs):Ui P own env n (.cell a t) (.agg ⟨vs⟩):=fun A w X hA s=>by
  obtain⟨rfl,h1⟩:=VN hd;obtain⟨rfl,h2⟩:=Us hv;have hl:((cs.drop off).take i.size).length=i.size:=by simp at h2 ⊢;omega
  have hc:∀j v,((cs.drop off).take i.size)[j]?=some v->w.cell? ((⟨b,off,none⟩:Addr).add j)=some v:=fun j v hj=>by
    rw [Es,Hf (m.get s)];rw [List.getElem?_take] at hj
    split at hj
    · rw [List.getElem?_drop] at hj;simpa using hj
    · cases hj
  have h3:A.tmps.getD a undef= .pointer (some ⟨b,off,none⟩):=by rw [Array.getD_eq_getD_getElem?,hA.get _ _ hx];rfl
  simp [PW,h3,asAddr,M5 (P:=P) (t:=t) ha hl hc]
end Go.SL
end
section
namespace Go.SL
def DE(q:Bool)(P:Program)(r:Option Nat)(F:CA)(n:Nat)(all:Array Oper)(rest:List Oper)(Q:DD)(env:Env)(own:List CA)(ds:List Deferred):Prop:=
  ∀l:List Nat,l.map (fun i=>all[i]?)=rest.map some->SO q P r F n all l Q env own ds
theorem YZ{all:Array Oper}{o:Oper}{rest:List Oper}{l:List Nat}(h:l.map (fun i=>all[i]?)=(o::rest).map some):
    ∃i l',l=i::l'/\all[i]?=some o/\l'.map (fun i=>all[i]?)=rest.map some:=by
  cases l with
  |nil=>cases h
  |cons i l'=>simp only [List.map_cons,List.cons.injEq] at h;exact⟨i,l',rfl,h.1,h.2⟩
theorem R3(all:Array Oper):(List.range all.size).map (fun i=>all[i]?)=all.toList.map some:=by
  apply List.ext_getElem?;intro i;simp only [List.getElem?_map];by_cases h:i<all.size
  · simp [h]
  · simp [h]
section
variable {P:Program} {r:Option Nat} {F:CA} {n:Nat} {Q:DD} {env:Env} {own rest hs own':List CA} {ds:List Deferred} {q:Bool} {all:Array Oper} {l:List Oper} {o:Oper} {K:Env->List CA->List Deferred->Prop} {id:Nat}
theorem Ze{ops:Array Oper}(hl:ops.toList=l)(h:DE false P r F n ops l Q env own ds):DI P r F n (.region id ops false) Q env own ds:=
  WO rfl (h _ (hl▸R3 ops))
theorem De{ops:Array Oper}(Ht:ZZ ops=true)(l6:YR ops=true)(hl:ops.toList=l)(h:DE true P r F n ops l Q env own ds):DI P r F n (.region id ops true) Q env own ds:=
  aQ Ht l6 rfl (h _ (hl▸R3 ops))
theorem Cw(h:Q .normal env own ds):DE q P r F n all [] Q env own ds:=fun l hl=>by
  cases l with
  |nil=>exact jb h
  |cons i l=>cases hl
theorem CW{v:Value}{d:Nat}(hd:o.dst=some d)(hn:Nat.blt d n=true)(hg:C6 all env o=some true)(hv:DG P (F::own) n o env v)
    (h:DE q P r F n all l Q ((d,v)::env) own ds):DE q P r F n all (o::l) Q env own ds:=fun k hk=>by
  obtain⟨i,k',rfl,hi,Oh⟩:=YZ hk;exact ld hi hd (Nat.le_of_ble_eq_true hn) hg hv (h k' Oh)
theorem eW{d:Nat}(hd:o.dst=some d)(hn:Nat.blt d n=true)(hg:C6 all env o=some false)(hp:EX o.op=true)
    (h:DE q P r F n all l Q ((d,undef)::env) own ds):DE q P r F n all (o::l) Q env own ds:=fun k hk=>by
  obtain⟨i,k',rfl,hi,Oh⟩:=YZ hk;exact eU hi hd (Nat.le_of_ble_eq_true hn) hg hp (h k' Oh)
theorem fa{b:Bool}{d:Nat}(hd:o.dst=some d)(hn:Nat.blt d n=true)(hg:C6 all env o=some true)(hv:DG P (F::own) n o env (.bool b))
    (h1:b=true->DE q P r F n all l Q ((d,.bool true)::env) own ds) (h2:b=false->DE q P r F n all l Q ((d,.bool false)::env) own ds):DE q P r F n all (o::l) Q env own ds:=by
  cases b
  · exact CW hd hn hg hv (h2 rfl)
  · exact CW hd hn hg hv (h1 rfl)
theorem aW{p:Prop} [Decidable p]{d:Nat}(hd:o.dst=some d)(hn:Nat.blt d n=true)(hg:C6 all env o=some true)(hv:DG P (F::own) n o env (.bool (decide p)))
    (hp:p) (h:DE q P r F n all l Q ((d,.bool true)::env) own ds):DE q P r F n all (o::l) Q env own ds:=
  CW hd hn hg hv (by rw [decide_eq_true hp];exact h)
theorem ic{p:Prop} [Decidable p]{d:Nat}(hd:o.dst=some d)(hn:Nat.blt d n=true)(hg:C6 all env o=some true)(hv:DG P (F::own) n o env (.bool (decide p)))
    (hp:¬p) (h:DE q P r F n all l Q ((d,.bool false)::env) own ds):DE q P r F n all (o::l) Q env own ds:=
  CW hd hn hg hv (by rw [decide_eq_false hp];exact h)
theorem lh{p:Prop} [Decidable p]{d:Nat}(hd:o.dst=some d)(hn:Nat.blt d n=true)(hg:C6 all env o=some true)(hv:DG P (F::own) n o env (.bool (decide p)))
    (h1:p->DE q P r F n all l Q ((d,.bool true)::env) own ds) (h2:¬p->DE q P r F n all l Q ((d,.bool false)::env) own ds):DE q P r F n all (o::l) Q env own ds:=by
  by_cases hp:p
  · exact aW hd hn hg hv hp (h1 hp)
  · exact ic hd hn hg hv hp (h2 hp)
theorem bg{d:Nat}{t:TypeId}{de:TypeDesc}{z:Value}{ti:TypeInfo}{cs:List Value} [ty:Ty P t de z ti](hd:o.dst=some d)(hn:Nat.blt d n=true)(hg:C6 all env o=some true)(ho:o.op= .alloc t)(hz:EA z=some cs)
    (h:∀b,DE false P r F n all l Q ((d,.pointer (some ⟨b,0,none⟩))::env) (CV b (.cells ⟨cs⟩ t (0,0))::own) ds):DE false P r F n all (o::l) Q env own ds:=fun k hk=>by
  obtain⟨i,k',rfl,hi,Oh⟩:=YZ hk;exact aV hi hd (Nat.le_of_ble_eq_true hn) hg ho hz (fun b=>h b k' Oh)
theorem jd{d:Nat}{t:TypeId}{x:Operand}{v:Value}{cs:List Value}(hd:o.dst=some d)(hn:Nat.blt d n=true)(hg:C6 all env o=some true)(ho:o.op= .box t x)(hx:ev env x=some v)(hz:EA v=some cs)
    (h:∀b,DE false P r F n all l Q ((d,.pointer (some ⟨b,0,none⟩))::env) (CV b (.cells ⟨cs⟩ t (0,0))::own) ds):DE false P r F n all (o::l) Q env own ds:=fun k hk=>by
  obtain⟨i,k',rfl,hi,Oh⟩:=YZ hk;exact jc hi hd (Nat.le_of_ble_eq_true hn) hg ho hx hz (fun b=>h b k' Oh)
theorem PO{t T:TypeId}{x y:Operand}{b off:Nat}{v:Value}{cs vs cs':List Value}{d:TypeDesc}{z:Value}{ti:TypeInfo} [ty:Ty P t d z ti]
    (hd:o.dst=none) (hg:C6 all env o=some true) (ho:o.op= .store t x y) (hx:ev env x=some (.pointer (some ⟨b,off,none⟩))) (hy:ev env y=some v)
    (hv:EA v=some vs) (Hs:vs.length=ti.size) (h1:vs.all (·.oneCell')=true) [m:At own b (.cells ⟨cs⟩ T (0,0))] (hc:F5 cs off vs=some cs') [pb:Wl own b (.cells ⟨cs⟩ T (0,0)) (.cells ⟨cs'⟩ T (0,0)) own']
    (h:DE false P r F n all l Q env own' ds):DE false P r F n all (o::l) Q env own ds:=fun k hk=>by
  obtain⟨i,k',rfl,hi,Oh⟩:=YZ hk;exact aT hi hd hg ho hx hy hv Hs h1 hc (h k' Oh)
theorem Ft{c:Call}{x:Operand}{f:FuncId}{first captured:Array Value}{vs FI:List Value}{R:Ending->List CA->Prop} [Enters P f] [t:Dx own hs rest]{d:Nat}
    (hd:o.dst=some d) (hn:Nat.blt d n=true) (hg:C6 all env o=some true)
    (ho:o.op= .call c) (hc:c.callee= .value x) (hx:ev env x=some (.func (.func f) first captured)) (Ko:OW env c.args.toList=some vs)
    (Fp:Lq first.toList vs captured.toList=some FI) (h:T P f FI hs R)
    (hr:∀e own',R e own'->(∃v,e= .returned v/\DE false P r F n all l Q ((d,v)::env) (own'++rest) ds)∨(∃ch,e= .panicked ch/\Q (.panic ch) env (own'++rest) ds)):
    DE false P r F n all (o::l) Q env own ds:=fun k hk=>by
  obtain⟨i,k',rfl,hi,Oh⟩:=YZ hk;exact eV hi hd (Nat.le_of_ble_eq_true hn) hg ho hc hx Ko (Pw Fp) h fun e own' hR=>(hr e own' hR).imp (fun⟨v,h1,h2⟩=>⟨v,h1,h2 k' Oh⟩) _root_.id
theorem Cy(h:K env own ds):Re K Q .normal env own ds:=h
theorem CQ(h:Q .ret env own ds):Re K Q .ret env own ds:=h
theorem Gf{id:Nat}(h:Q (.exit id) env own ds):Re K Q (.exit id) env own ds:=h
theorem DF{ch:List PanicEntry}(h:Q (.panic ch) env own ds):Re K Q (.panic ch) env own ds:=h
theorem Ja{id:Nat}(h:Q .normal env own ds):kA id Q .normal env own ds:=h
theorem C3{id:Nat}(h:Q .ret env own ds):kA id Q .ret env own ds:=h
theorem LJ{id:Nat}{ch:List PanicEntry}(h:Q (.panic ch) env own ds):kA id Q (.panic ch) env own ds:=h
theorem Gh{id:Nat}(h:Q .normal env own ds):kA id Q (.exit id) env own ds:=by simp only [kA,if_true];exact h
end
theorem CS{P:Program}{fn:Func}{n:Nat}{own own1 hs rest:List CA}{ds:List Deferred}{env:Env}{v v':Value} [m:Marks ds own own1] [t:Dx own1 hs rest](hr:IK P fn.results.toList own1 env n v')(hv:v'=v):
    Mf P fn n (fun e own'=>e= .returned v/\own'=hs) .ret env own ds:=
  ⟨v',own1,hs,m,hr,fun F _ s=>(s.perm (t.perm.cons F)).sub (List.Sublist.cons_cons F (List.sublist_append_left _ _)),by rw [hv],rfl⟩
theorem HR{P:Program}{fn:Func}{n:Nat}{own own1 rest:List CA}(hs:List CA){ds:List Deferred}{env:Env}{v:Value}{Q:Ending->List CA->Prop} [m:Marks ds own own1] [t:Dx own1 hs rest](hr:IK P fn.results.toList own1 env n v)(hq:Q (.returned v) hs):
    Mf P fn n Q .normal env own ds:=
  ⟨v,own1,hs,m,hr,fun F _ s=>(s.perm (t.perm.cons F)).sub (List.Sublist.cons_cons F (List.sublist_append_left _ _)),hq⟩
theorem CL{P:Program}{f:FuncId}{fn:Func}{c:Code}{args:List Value}{hs:List CA}{v:Value}(hf:P.funcs[f]?=some fn)(hb:fn.body=some c)
    (hn:args.length≤fn.ntmps) (h:∀F,DI P none F fn.ntmps c (Mf P fn fn.ntmps fun e own=>e= .returned v/\own=hs) (params args 0) hs []):Dw P f args hs v:=CM hf hb hn h
theorem Dw.to{P:Program}{f:FuncId}{args:List Value}{hs:List CA}{v v':Value}(h:Dw P f args hs v)(e:v=v'):Dw P f args hs v':=e▸h
theorem Dw.T{P:Program}{f:FuncId}{args:List Value}{hs:List CA}{v:Value}(h:Dw P f args hs v):SL.T P f args hs fun e own=>e= .returned v/\own=hs:=h
end Go.SL
end
