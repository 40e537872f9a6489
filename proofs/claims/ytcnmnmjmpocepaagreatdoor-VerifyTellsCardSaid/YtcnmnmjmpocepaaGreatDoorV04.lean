
import Derived.Test.YtcnmnmjmpocepaaGreatDoorV03
import Derived.Laws.StructEq
import Derived.RowKit3
import Derived.Deep.Slices
import Derived.WideKeyArgs
import Derived.ProofKit
import Derived.OpenShut
set_option linter.unusedVariables false
set_option linter.unusedSimpArgs false
set_option linter.unusedSectionVars false
set_option maxRecDepth 100000
set_option maxHeartbeats 16000000
section
namespace Go.SL
def mj:Nat->Value->Value->Option Bool
  |0,.int k a,.int k' b=>if k=k' then some (decide (a=b)) else none
  |1,.bool a,.bool b=>some (a ==b)
  |2,.string a,.string b=>some (a.toList ==b.toList)
  |_,_,_=>none
def j4 (xs ys:List Value):List (Nat×Nat)->Option Bool
  | []=>some true
  | (i, k)::r=>match nth xs i with
    | some a=>match nth ys i with
      | some b=>match mj k a b with
        | some e=>match j4 xs ys r with
          |some e'=>some (e && e')
          |none=>none
        |none=>none
      |none=>none
    |none=>none
def Oq(P:Program)(t:TypeId):Nat:=match P.underlying t with
  |some (.int _)=>0
  |some .bool=>1
  |some .string=>2
  |_=>3
theorem fh {P:Program}{t:TypeId}{d:Nat}{a b:Value}{e:Bool}(w:World)(h:mj (Oq P t) a b=some e):
    (Op.equalIn (d+1) t a b).run P w= .ok e w/\Ox ((P.underlying t).getD .bool)=false/\(P.underlying t).isSome=true:=by
  unfold Oq at h
  cases hu:P.underlying t with
  | none => rw [hu] at h;simp only at h;unfold mj at h;split at h <;>first|cases h|skip
            all_goals simp_all
  | some de=>
    rw [hu] at h
    cases de <;>simp only at h <;>unfold mj at h <;>split at h <;>simp_all
    all_goals first
      |(obtain⟨rfl,rfl⟩:=h;exact⟨run_equalIn_int w d t _ _ _ _ hu,rfl⟩)
      |(subst h;exact⟨run_equalIn_bool w d t _ _ hu,rfl⟩)
      |(subst h;exact⟨run_equalIn_string w d t _ _ hu,rfl⟩)
      |skip
theorem RX{P:Program}{t:TypeId}{xs:List Value}{off:Nat}{v:Value}(w:World)(h1:Ox ((P.underlying t).getD .bool)=false)(h2:(P.underlying t).isSome=true)(hx:nth xs off=some v):(part t ⟨xs⟩ off).run P w= .ok v w:=by
  rw [P9] at hx
  cases hu:P.underlying t with
  |none=>rw [hu] at h2;cases h2
  | some d=>
    rw [hu] at h1
    have KL:(⟨xs⟩:Array Value)[off]?=some v:=by simpa using hx
    cases d
    case struct=>cases h1
    case array=>cases h1
    all_goals simp [part,isAgg,run_underlying hu,hx]
theorem Rn {P:Program}(w:World)(d:Nat){xs ys:List Value}:∀(fs:List Field) (r:Bool),(∀f∈fs,f.name≠ "_")->j4 xs ys (fs.map fun f=>(f.offset,Oq P f.type))=some r->
    (Op.eqFields (d+1) ⟨xs⟩ ⟨ys⟩ fs).run P w= .ok r w:=by
  intro fs;induction fs with
  |nil=>intro r _ h;cases h;simp [Op.eqFields]
  | cons f fs ih=>
    intro r hn h;simp only [List.map_cons,j4] at h
    cases h1:nth xs f.offset with
    |none=>rw [h1] at h;cases h
    | some a=>
      rw [h1] at h
      cases h2:nth ys f.offset with
      |none=>rw [h2] at h;cases h
      | some b=>
        rw [h2] at h
        cases h3:mj (Oq P f.type) a b with
        |none=>simp only [h3] at h;cases h
        | some e=>
          simp only [h3] at h
          cases h4:j4 xs ys (fs.map fun f=>(f.offset,Oq P f.type)) with
          |none=>simp only [h4] at h;cases h
          | some e'=>
            simp only [h4,Option.some.injEq] at h
            subst h;obtain⟨g1,g2,g3⟩:=fh (d:=d) w h3;have g4:=ih e' (fun g hg=>hn g (List.mem_cons_of_mem _ hg)) h4;simp only [Op.eqFields,hn f (List.mem_cons_self ..),ne_eq,not_false_eq_true,if_true,Sem.run_bind,RX w g2 g3 h1,RX w g2 g3 h2,g1,Result.andThen_ok];cases e
            · simp
            · simpa using g4
class kX (P:Program) (t:TypeId) (ks:outParam (List (Nat×Nat))):Prop where
  u:P.underlying t=some (.struct (P.fieldsOf t))
  st:P.stoodInHeld t=false
  g:P.eqGuardType P.depth t=false
  nm:(P.fieldsOf t).toList.all (fun f=>f.name != "_")=true
  ks:(P.fieldsOf t).toList.map (fun f=>(f.offset,Oq P f.type))=ks
theorem kX.run{P:Program}{t:TypeId}{ks:List (Nat×Nat)}(q:kX P t ks){xs ys:List Value}{r:Bool}(h:j4 xs ys ks=some r)(w:World):(Op.equal t (.agg ⟨xs⟩) (.agg ⟨ys⟩)).run P w= .ok r w:=by
  have h1:=run_equalIn_struct w 9999 t ⟨xs⟩ ⟨ys⟩ q.u q.st;refine h1.trans (Rn w 9998 _ r (fun f hf=> ?_) (by rw [q.ks];exact h));have:=List.all_eq_true.1 q.nm f hf;simpa using this
section
variable {P:Program} {own:List CA} {n:Nat} {env:Env} {o:Oper}
theorem GD{t u:TypeId}{x y:Operand}{xs ys:List Value}{ks:List (Nat×Nat)}{r:Bool} [q:kX P t ks](ho:o.op= .binOp .eql t x y u)(hx:ev env x=some (.agg ⟨xs⟩))(hy:ev env y=some (.agg ⟨ys⟩))(h:j4 xs ys ks=some r):DG P own n o env (.bool r):=
  DC (by rw [ho];rfl) fun c w ha=>by
    have hg:(eqGuard .eql t x y (.agg ⟨xs⟩) (.agg ⟨ys⟩)).run P w= .ok () w:=by simp [eqGuard,q.g]
    simp only [execOp,ho,ha.eval hx,ha.eval hy];simp [hg,binOp,q.run h]
theorem Ip{t u:TypeId}{x y:Operand}{xs ys:List Value}{ks:List (Nat×Nat)}{r:Bool} [q:kX P t ks](ho:o.op= .binOp .neq t x y u)(hx:ev env x=some (.agg ⟨xs⟩))(hy:ev env y=some (.agg ⟨ys⟩))(h:j4 xs ys ks=some r):DG P own n o env (.bool (!r)):=
  DC (by rw [ho];rfl) fun c w ha=>by
    have hg:(eqGuard .neq t x y (.agg ⟨xs⟩) (.agg ⟨ys⟩)).run P w= .ok () w:=by simp [eqGuard,q.g]
    simp only [execOp,ho,ha.eval hx,ha.eval hy];simp [hg,binOp,q.run h]
end
end Go.SL
end
section
namespace Go.SL
open Go.RowKit
def X1(W w':World):Prop:=W.keptBut w' (fun _=>False)/\(∀a,a.block<W.heap.size->w'.frozen? a=W.frozen? a)/\W.heap.size≤w'.heap.size
theorem dp{w w':World}(h:hle (wh w) (wh w')):X1 w w':=by
  have hos:=h .os _ rfl;simp only [wh,Option.some.injEq,HV.os.injEq] at hos
  have hb:∀(i:Nat) o,w.heap[i]?=some o->w'.heap[i]?=some o:=fun i o hi=>O1.1 (h _ _ (O1.2 hi))
  refine⟨⟨hos.1,hos.2,fun i hi=> ?_⟩,fun a ha=> ?_,?_⟩
  · have h1:w.heap[i]?=some w.heap[i]:=Array.getElem?_eq_getElem hi;rw [hb i _ h1,h1];cases w.heap[i] <;>simp
  · have h2:wh w (.fz a.block)=some (.fz fun off=>w.frozen? ⟨a.block,off,none⟩):=by simp only [wh,if_pos ha]
    have:=h (.fz a.block) _ h2;simp only [wh] at this
    split at this
    · simp only [Option.some.injEq,HV.fz.injEq] at this
      have:=congrFun this a.off;simpa [World.frozen?] using this
    · cases this
  · rcases Nat.lt_or_ge w'.heap.size w.heap.size with E6|hge
    · have h1:w.heap[w'.heap.size]?=some w.heap[w'.heap.size]:=Array.getElem?_eq_getElem E6;have:=hb _ _ h1;simp at this
    · exact hge
theorem ff(w:World):Sat [wh w] w:=⟨fun h hh=>by rw [List.mem_singleton.1 hh];exact hle.refl _,List.pairwise_singleton _ _⟩
end Go.SL
end
section
namespace Go.SL
theorem wrap_u64(n:Nat):IntKind.u64.wrap (n:Int)=((n%2^64:Nat):Int):=by
  simp only [IntKind.wrap,IntKind.bits,IntKind.signed,Bool.false_and,Bool.false_eq_true,if_false]
  norm_cast
theorem Hm{n:Nat}(h:n<2^64):IntKind.u64.wrap (n:Int)=(n:Int):=by rw [wrap_u64,Nat.mod_eq_of_lt h]
theorem fe{a:Nat}(b:Nat)(h:a<2^64):shr .u64 (a:Int) (b:Int)=((a >>>b:Nat):Int):=by
  have e:∀k:Nat,(a:Int).fdiv (2^k)=((a >>>k:Nat):Int):=fun k=>by
    rw [Int.fdiv_eq_ediv_of_nonneg _ (Int.le_of_lt (Int.pow_pos Ah)),Nat.shiftRight_eq_div_pow]
    norm_cast
  simp only [shr,IntKind.bits,Int.toNat_natCast];rw [e];by_cases hb:b≤64
  · rw [Nat.min_eq_left hb]
  · rw [Nat.min_eq_right Ab,Nat.shiftRight_eq_div_pow,Nat.shiftRight_eq_div_pow,Nat.div_eq_of_lt h,Nat.div_eq_of_lt (Nat.lt_of_lt_of_le h (Nat.pow_le_pow_right Ah Ab))]
theorem To(a b:Nat):shl .u64 (a:Int) (b:Int)=((a <<<b%2^64:Nat):Int):=by
  simp only [shl,IntKind.bits,Int.toNat_natCast];have:(a:Int)*2^(min b 64)=((a*2^min b 64:Nat):Int):=by norm_cast
  rw [this,wrap_u64,Nat.shiftLeft_eq];by_cases hb:b≤64
  · rw [Nat.min_eq_left hb]
  · rw [Nat.min_eq_right Ab];have e:2^b=2^64*2^(b - 64):=by rw [<-Nat.pow_add];congr 1;omega
    rw [Nat.mul_mod_left,e,<-Nat.mul_assoc,Nat.mul_right_comm,Nat.mul_mod_left]
theorem R8(a:Nat):BitVec.ofInt 64 (a:Int)=BitVec.ofNat 64 a:=by simp
theorem bK{a b:Nat}(ha:a<2^64)(hb:b<2^64):QT .or .u64 (a:Int) (b:Int)=((a |||b:Nat):Int):=by
  show IntKind.u64.wrap (((BitVec.ofInt 64 (a:Int) |||BitVec.ofInt 64 (b:Int)).toNat:Nat):Int)=_;rw [Hm (BitVec.isLt _),R8,R8,BitVec.toNat_or,BitVec.toNat_ofNat,BitVec.toNat_ofNat,Nat.mod_eq_of_lt ha,Nat.mod_eq_of_lt hb]
end Go.SL
end
section
namespace Go.SL
class mJ (P:Program) (t:TypeId) (n:outParam Nat) (e:outParam TypeId) (sz:outParam Nat):Prop where
  u:P.underlying t=some (.array n e)
  s:∀w,(sizeOf e).run P w= .ok sz w
theorem aI{P:Program}{t e:TypeId}{n sz:Nat}{i:TypeInfo}(h1:P.underlying t=some (.array n e))(h2:P.info? e=some i)(h3:i.size=sz):mJ P t n e sz:=
  ⟨h1,fun w=>by rw [Ej h2,h3]⟩
section
variable {P:Program} {own:List CA} {n:Nat} {env:Env} {o:Oper}
theorem JY{t e:TypeId}{len sz:Nat}{x ix:Operand}{k:IntKind}{j:Int}{cs:List Value}{v:Value} [h1:mJ P t len e sz] [h2:az P e](ho:o.op= .index t x ix)(hx:ev env x=some (.agg ⟨cs⟩))(hi:ev env ix=some (.int k j))
    (h0:0≤j) (E6:j<len) (hv:cs[j.toNat*sz]?=some v):DG P own n o env v:=
  DC (by rw [ho];rfl) fun a w ha=>by
    simp [execOp,ho,ha.eval hx,ha.eval hi,Instr.index,asIntOf,Di h1.u,h0,E6,h1.s,part,h2.run,hv]
theorem I7{t e:TypeId}{len sz:Nat}{x ix:Operand}{k:IntKind}{j:Int}{b off:Nat} [h1:mJ P t len e sz](ho:o.op= .indexAddr t x ix)(hx:ev env x=some (.pointer (some ⟨b,off,none⟩)))(hi:ev env ix=some (.int k j))
    (h0:0≤j) (E6:j<len):DG P own n o env (.pointer (some ⟨b,off+j.toNat*sz,none⟩)):=
  DC (by rw [ho];rfl) fun a w ha=>by
    simp [execOp,ho,ha.eval hx,ha.eval hi,Instr.indexAt,asIntOf,Di h1.u,h0,E6,h1.s,Instr.sureAddr,Es]
theorem HI{t u:TypeId}{x y:Operand}{a b:Bool}(hu:P.underlying t=some .bool)(ho:o.op= .binOp .eql t x y u)(hx:ev env x=some (.bool a))(hy:ev env y=some (.bool b)):DG P own n o env (.bool (a ==b)):=
  DC (by rw [ho];rfl) fun c w ha=>by
    simp [execOp,ho,ha.eval hx,ha.eval hy,eqGuard,binOp,run_equal_bool w t a b hu]
theorem G7{t u:TypeId}{x y:Operand}{a b:Bool}(hu:P.underlying t=some .bool)(ho:o.op= .binOp .neq t x y u)(hx:ev env x=some (.bool a))(hy:ev env y=some (.bool b)):DG P own n o env (.bool (!(a ==b))):=
  DC (by rw [ho];rfl) fun c w ha=>by
    simp [execOp,ho,ha.eval hx,ha.eval hy,eqGuard,binOp,run_equal_bool w t a b hu]
end
section
variable {P:Program} {r:Option Nat} {F:CA} {n:Nat} {Q:DD} {env:Env} {own:List CA} {ds:List Deferred} {q:Bool} {all:Array Oper} {l:List Oper} {o:Oper}
theorem JU{b:Bool}{d:Nat}(hd:o.dst=some d)(hn:Nat.blt d n=true)(hg:C6 all env o=some true)(hv:DG P (F::own) n o env (.bool b))(hb:b=true)
    (h:DE q P r F n all l Q ((d,.bool true)::env) own ds):DE q P r F n all (o::l) Q env own ds:=by
  subst hb;exact CW hd hn hg hv h
theorem M0{b:Bool}{d:Nat}(hd:o.dst=some d)(hn:Nat.blt d n=true)(hg:C6 all env o=some true)(hv:DG P (F::own) n o env (.bool b))(hb:b=false)
    (h:DE q P r F n all l Q ((d,.bool false)::env) own ds):DE q P r F n all (o::l) Q env own ds:=by
  subst hb;exact CW hd hn hg hv h
end
end Go.SL
end
section
namespace Go.SL
open Go.RowKit Go.ChangeShapes Go.WideShapes
theorem UK{w w':World}(h:hle (wh w) (wh w')){p:MemPlace}(hp:p.block<w.heap.size):w.sameAt w' p:=by
  have hb:w'.heap[p.block]?=w.heap[p.block]?:=by
    have h1:w.heap[p.block]?=some w.heap[p.block]:=Array.getElem?_eq_getElem hp;rw [h1];exact O1.1 (h _ _ (O1.2 h1))
  cases p with
  |cell b off=>simp only [World.sameAt,World.cell?];rw [show w'.heap[b]?=w.heap[b]? from hb]
  |map b=>exact hb
theorem L0{H:Type}{enc:TypeId×Value->H}{P:Program}{w w':World}(hl:laidOutB P=true)(h:hle (wh w) (wh w')){sp:Nat->Bool}:
    ∀ {ts:List TypeId} {vs:List Value} {ds:List (DataW H)} {ps:List MemPlace},(∀t∈ts,P.readableRec t=true/\t<P.types.size)->DataW.TrodAll enc P w 0 (fun _=>true) true ts vs ds ps->
      (∀p∈ps,p.block<w.heap.size)->(∀p∈ps,sp p.block=true)->DataW.TrodAll enc P w' 0 sp true ts vs ds ps
  | [],[],[],_,_,h,_,_=>h
  | _ ::_,_::_,_::_,_,hT,⟨p,q,h1,h2,e⟩,E6,hs=>
    have g:=hT _ (List.mem_cons_self ..)
    ⟨p,q,WideElems.Trod_stays hl g.1 g.2 h1 (fun x hx=>UK h (E6 x (by rw [e];exact List.mem_append_left _ hx))) (fun x hx=>hs x (by rw [e];exact List.mem_append_left _ hx)),
      L0 hl h (fun t ht=>hT t (List.mem_cons_of_mem _ ht)) h2 (fun x hx=>E6 x (by rw [e];exact List.mem_append_right _ hx)) (fun x hx=>hs x (by rw [e];exact List.mem_append_right _ hx)),e⟩
def R0(P:Program)(ts:List TypeId):Bool:=laidOutB P && ts.all fun t=>P.readableRec t && Nat.blt t P.types.size
theorem X1.frame{W w':World}(h:X1 W w')(p:MemPlace->Prop):W.keptBut w' p:=World.keptBut_mono (fun _ hf=>hf.elim) h.1
theorem Ru{H:Type}{enc:TypeId×Value->H}{P:Program}{f:Func}{s:ChangeSpec}{apart fresh handsOn again:Bool}{W W':World}{args:Array Value}{v:Value}{ds gs:List (DataW H)}{before pa pv:List MemPlace}
    (hW:DataW.Whole enc P f.params.toList s.vars apart W args.toList ds gs before)
    (Og:∀(b:Nat) (sp:Nat->Bool) (hd:Bool),DataW.TrodAll enc P W' b sp hd f.resultTypes.toList (v.resultList f.resultTypes.size) (s.fn H (ds++gs)).results [])
    (iN:∀sp:Nat->Bool,(∀p∈before,sp p.block=true)->DataW.TrodAll enc P W' 0 sp true f.params.toList args.toList (s.fn H (ds++gs)).args pa)
    (iC:∀sp:Nat->Bool,(∀p∈before,sp p.block=true)->DataW.TrodVars enc P W' sp s.vars (s.fn H (ds++gs)).vars pv)
    (au:before=pa++pv) (hk:W.keptBut W' (· ∈before)) (ov:∀a,a.block<W.heap.size->W'.frozen? a=W.frozen? a)
    (Ht:∀(j:Nat) (t:TypeId) (r:Value),f.resultTypes[j]?=some t->(v.resultList f.resultTypes.size)[j]?=some r->Value.okWide P W' .any 0 t r):
    s.post enc P f apart fresh handsOn again W args v W':=by
  have hold:∀p∈before,(fun b=>decide (b<W.heap.size)) p.block=true:=fun p hp=>by simpa using hW.lt p hp
  have E6:∀b off,MemPlace.cell b off∈before->b<W.heap.size:=fun b off hp=>hW.lt _ hp
  refine⟨ds,gs,before,[],pa,pv,hW,Og _ _ _,iN _ hold,iC _ hold,World.keptBut_mono (fun p hp=>⟨hp,?_⟩) hk,fun _=> ?_⟩
  · rw [au,List.mem_append] at hp
    exact Or.inr hp
  · obtain⟨_,_,_,_,_,hz,hn⟩:=hW;refine⟨Ht,_,_,([]++pa)++pv,⟨[]++pa,pv,trodAll_append (iN _ (fun _ _=>rfl)) (Og _ _ _),iC _ (fun _ _=>rfl),rfl,?_,?_⟩,?_⟩
    · intro b off hp;have aw:MemPlace.cell b off∈before:=by rw [au];simpa using hp
      rw [ov _ (E6 b off aw)];exact hz b off aw
    · intro ha;have:=hn ha;rw [au] at this
      simpa using this
    · intro p hp _;rw [au];simpa using hp
theorem Yu{H:Type}{enc:TypeId×Value->H}{P:Program}{f:Func}{s:ChangeSpec}{apart fresh handsOn again:Bool}{W W':World}{args:Array Value}{ds gs:List (DataW H)}{before p:List MemPlace}{bt:TypeId}
    (hW:DataW.Whole enc P f.params.toList s.vars apart W args.toList ds gs before) (hA:DataW.TrodAll enc P W 0 (fun _=>true) true f.params.toList args.toList ds p) (hp:before=p) (ou:gs= []) (hv:s.vars= [])
    (hs:s.fn H ds={results:= [.lit (.bool true)],args:=ds}) (hr:R0 P f.params.toList=true) (Og:f.resultTypes= #[bt]) (hu:P.underlying bt=some .bool)
    (h:hle (wh W) (wh W')):s.post enc P f apart fresh handsOn again W args (.bool true) W':=by
  subst hp;subst ou;have hg:=dp h;simp only [R0,Bool.and_eq_true,List.all_eq_true] at hr
  refine Ru (pa:=before) (pv:= []) hW (fun b sp hd=> ?_) (fun sp lQ=> ?_) (fun _ _=> ?_) Am (hg.frame _) hg.2.1 ?_
  · rw [List.append_nil,hs,Og];exact trodAll_cons_mk (shut_bool hu _) trodAll_mk0
  · rw [List.append_nil,hs];exact L0 hr.1 h (fun t ht=>⟨(hr.2 t ht).1,Nat.le_of_ble_eq_true (hr.2 t ht).2⟩) hA (fun x hx=>hW.lt x hx) lQ
  · rw [List.append_nil,hs,hv];rfl
  · exact ok_one Og rfl (okWide_bool_mk hu _)
theorem K7{P:Program}{w:World}{r:Reach}{base:Nat}{t:TypeId}{v:Value}{d:TypeDesc}(ht:P.underlying t=some d)(ha:Ox d=true)(h:Value.okWide P w r base t v):∃cs:List Value,v= .agg ⟨cs⟩:=by
  unfold Value.okWide at h
  rw [ht] at h
  cases d <;>simp only [Ox] at ha <;>first|cases ha|skip
  · obtain⟨cs,rfl, -⟩:=h;exact⟨cs.toList,rfl⟩
  · obtain⟨cs,rfl, -⟩:=h;exact⟨cs.toList,rfl⟩
theorem Qe{α:Type}{f:Nat->Option α}:∀ {n:Nat} {l:List α},(List.range n).mapM f=some l->l.length=n/\∀i,i<n->∃x,f i=some x/\l[i]?=some x:=by
  intro n;induction n with
  |zero=>intro l h;simp at h;subst h;exact⟨rfl,fun i hi=>absurd hi (Nat.not_lt_zero _)⟩
  | succ n ih=>
    intro l h;rw [List.range_succ,List.mapM_append] at h
    cases h1:(List.range n).mapM f with
    |none=>rw [h1] at h;simp at h
    | some l1=>
      cases h2:f n with
      |none=>rw [h1] at h;simp [h2] at h
      | some y=>
        rw [h1] at h;simp [h2] at h
        subst h;obtain⟨g1,g2⟩:=ih h1;refine⟨by simp [g1],fun i hi=> ?_⟩;by_cases e:i=n
        · subst e;exact⟨y,h2,by rw [List.getElem?_append_right Ab,g1];simp⟩
        · obtain⟨x,hx,hl⟩:=g2 i Ab;exact⟨x,hx,by rw [List.getElem?_append_left Ab];exact hl⟩
theorem V7{w:World}{a:Addr}{n:Nat}{cs:List Value}(h:w.cells? 0 a n=some cs):cs.length=n/\∀i v,cs[i]?=some v->w.cell? (a.add i)=some v:=by
  unfold World.cells? at h
  rw [if_pos (Nat.zero_le _)] at h
  obtain⟨h1,h2⟩:=Qe h;refine⟨h1,fun i v hi=> ?_⟩;obtain⟨x,hx,hl⟩:=h2 i (by rw [<-h1];exact(List.getElem?_eq_some_iff.1 hi).1);rw [hi] at hl;cases hl;exact hx
theorem S5{w:World}{a:Addr}{v:Value}(h:w.cell? a=some v):a.spot=none/\∃arr T fz,wh w (.b a.block)=some (.o (.cells arr T fz))/\arr[a.off]?=some v:=by
  unfold World.cell? at h
  cases hb:w.heap[a.block]? with
  |none=>rw [hb] at h;cases h
  | some o=>
    rw [hb] at h
    cases o with
    | cells c T fz=>
      simp only at h
      split at h
      · cases h
      · rename_i hs
        refine⟨?_,c,T,fz,O1.2 hb,h⟩;cases e:a.spot with
        |none=>rfl
        |some _=>rw [e] at hs;simp at hs
    |_=>cases h
theorem add_zero'(a:Addr):a.add 0=a:=by unfold Addr.add;rw [if_pos rfl]
theorem eX {H :Type}{enc:TypeId×Value->H}{P:Program}{w:World}{sp:Nat->Bool}{held:Bool}{t e:TypeId}{sz fuel:Nat}{base:Option Addr}{len cap:Nat}{x:DataW H×List MemPlace}
    (ht:P.underlying t=some (.slice e)) (Hs:P.cellsOf e=sz) (GJ:0<sz) (h:DataW.trod enc P w 0 sp held fuel t [.slice base len cap]=some x):
    ∃cs:List Value,cs.length=len*sz/\Sl (wh w) base cs/\len≤maxLen/\len≤cap/\∃n,∀i,i<len->∃y,DataW.trod enc P w 0 sp held n e ((cs.drop (i*sz)).take sz)=some y:=by
  rcases Deep.open_slice ht h with ⟨h0, -⟩|⟨a,len',FA,m,n,D,Pl,h0, -,hle,ZS,hm, -,hel⟩
  · cases h0
    exact⟨[],by simp,⟨fun k v hk=>by cases hk⟩,Nat.zero_le _,Nat.zero_le _,0,fun i hi=>absurd hi (Nat.not_lt_zero _)⟩
  · cases h0
    have hlm:len≤m:=by rw [hm];split <;>omega
    rw [Hs] at hel
    have hspot:0<len->a.spot=none:=fun h0=>by
      obtain⟨row,h1, -⟩:=hel 0 Ab;obtain⟨g1,g2⟩:=V7 h1;have:=g2 0 row[0] (by simp [g1,GJ]);rw [Nat.zero_mul,add_zero',add_zero'] at this
      exact(S5 this).1
    have LU:∀i,i<len->∃row:List Value,row.length=sz/\(∀j v,row[j]?=some v->w.cell? (a.add (i*sz+j))=some v)/\∃y,DataW.trod enc P w 0 sp held n e row=some y:=fun i hi=>by
      obtain⟨row,h1,h2⟩:=hel i Ab;obtain⟨g1,g2⟩:=V7 h1;refine⟨row,g1,fun j v hj=> ?_,_,h2⟩;have:=g2 j v hj;have e1:(a.add (i*sz)).add j=a.add (i*sz+j):=by
        have MS:=hspot Ab;obtain⟨b,o,s⟩:=a;simp only at MS
        subst MS;rw [Es,Es,Es,Nat.add_assoc]
      rw [<-e1];exact this
    have key:∀k,k≤len->∃cs:List Value,cs.length=k*sz/\(∀j v,cs[j]?=some v->w.cell? (a.add j)=some v)/\∀i,i<k->∃y,DataW.trod enc P w 0 sp held n e ((cs.drop (i*sz)).take sz)=some y:=by
      intro k;induction k with
      |zero=>intro _;exact⟨[],by simp,fun j v hj=>(by cases hj),fun i hi=>absurd hi (Nat.not_lt_zero _)⟩
      | succ k ih=>
        intro hk;obtain⟨cs,g1,g2,g3⟩:=ih Ab;obtain⟨row,r1,r2,r3⟩:=LU k Ab;refine⟨cs++row,by rw [List.length_append,g1,r1,Nat.add_mul,Nat.one_mul],fun j v hj=> ?_,fun i hi=> ?_⟩
        · rcases getElem?_tail hj with ⟨q1,q2⟩|⟨q1,q2⟩
          · exact g2 j v q2
          · have:=r2 _ v q2;rw [show k*sz+(j - cs.length)=j by omega] at this;exact this
        · by_cases e1:i=k
          · subst e1;rw [List.drop_append_of_le_length Ab,<-g1,List.drop_length,List.nil_append,List.take_of_length_le Ab];exact r3
          · obtain⟨y,hy⟩:=g3 i Ab;refine⟨y,?_⟩;have:i*sz+sz≤cs.length:=by
              have:(i+1)*sz≤k*sz:=Nat.mul_le_mul_right _ Ab;rw [Nat.add_mul,Nat.one_mul] at this;omega
            rw [List.drop_append_of_le_length Ab,List.take_append_of_le_length (by rw [List.length_drop];omega)];exact hy
    obtain⟨cs,g1,g2,g3⟩:=key len (Nat.le_refl _);refine⟨cs,g1,⟨fun k v hk=> ?_⟩,by omega,hle,n,g3⟩;have hc:=g2 k v hk;have E6:k<cs.length:=(List.getElem?_eq_some_iff.1 hk).1;have MS:=hspot (by
      rcases Nat.eq_zero_or_pos len with h|h
      · rw [h,Nat.zero_mul] at g1;omega
      · exact h)
    obtain⟨b,o,s⟩:=a;simp only at MS
    subst MS;rw [Es] at hc
    obtain⟨-,arr,T,fz,q1,q2⟩:=S5 hc;exact⟨⟨b,o,none⟩,arr,T,fz,rfl,rfl,q1,q2⟩
theorem Tl{H:Type}{enc:TypeId×Value->H}{P:Program}{w:World}{sp:Nat->Bool}{held:Bool}{t e:TypeId}{k:IntKind}{fuel:Nat}{base:Option Addr}{len cap:Nat}{x:DataW H×List MemPlace}
    (ht:P.underlying t=some (.slice e)) (he:P.underlying e=some (.int k)) (Hs:P.cellsOf e=1) (h:DataW.trod enc P w 0 sp held fuel t [.slice base len cap]=some x):
    ∃zs:List Int,zs.length=len/\Sl (wh w) base (zs.map (.int k))/\len≤maxLen/\len≤cap/\∀z∈zs,(Lit.int k z).wf=true:=by
  obtain⟨cs,h1,h2,h3,rL,n,h4⟩:=eX ht Hs Ah h;rw [Nat.mul_one] at h1
  have key:∀m,m≤len->∃zs:List Int,cs.take m=zs.map (.int k)/\∀z∈zs,(Lit.int k z).wf=true:=by
    intro m;induction m with
    |zero=>intro _;exact⟨[],by simp,fun z hz=>by cases hz⟩
    | succ m ih=>
      intro hm;obtain⟨zs,g1,g2⟩:=ih Ab;obtain⟨y,hy⟩:=h4 m Ab;rw [Nat.mul_one] at hy
      have E6:m<cs.length:=by omega
      have e1:(cs.drop m).take 1= [cs[m]]:=by rw [List.drop_eq_getElem_cons E6];rfl
      rw [e1] at hy
      obtain⟨z,Sr, -,aq⟩:=DataW.trod_int he hy;simp only [List.cons.injEq,and_true] at Sr
      refine⟨zs++ [z],?_,fun q hq=> ?_⟩
      · rw [List.take_add_one,List.getElem?_eq_getElem E6,g1,Sr];simp
      · rcases List.mem_append.1 hq with hq|hq
        · exact g2 q hq
        · rw [List.mem_singleton.1 hq];exact aq
  obtain⟨zs,g1,g2⟩:=key len (Nat.le_refl _);rw [List.take_of_length_le Ab] at g1
  refine⟨zs,?_,g1▸h2,h3,rL,g2⟩;have:=congrArg List.length g1;simp at this;omega
theorem RN {H:Type}{enc:TypeId×Value->H}{P:Program}{w:World}{sp:Nat->Bool}{held:Bool}{t e:TypeId}{k:IntKind}{fuel m:Nat}{cs:List Value}{x:DataW H×List MemPlace}
    (ht:P.underlying t=some (.array m e)) (he:P.underlying e=some (.int k)) (Hs:P.cellsOf e=1) (hn:P.cellsOf t=m) (h:DataW.trod enc P w 0 sp held fuel t cs=some x):
    ∃zs:List Int,zs.length=m/\cs=zs.map (.int k)/\∀z∈zs,(Lit.int k z).wf=true:=by
  cases fuel with
  |zero=>cases h
  | succ fuel=>
    simp only [DataW.trod,ht] at h
    split at h
    · rename_i hl
      rw [hn] at hl
      simp only [Hs,Nat.mul_one,Option.map_eq_some_iff] at h
      obtain⟨xs,hx, -⟩:=h;obtain⟨-,h2⟩:=Qe hx;have key:∀q,q≤m->∃zs:List Int,cs.take q=zs.map (.int k)/\∀z∈zs,(Lit.int k z).wf=true:=by
        intro q;induction q with
        |zero=>intro _;exact⟨[],by simp,fun z hz=>by cases hz⟩
        | succ q ih=>
          intro hm;obtain⟨zs,g1,g2⟩:=ih Ab;obtain⟨y,hy, -⟩:=h2 q Ab;have E6:q<cs.length:=by omega
          have e1:(cs.drop q).take 1= [cs[q]]:=by rw [List.drop_eq_getElem_cons E6];rfl
          rw [e1] at hy
          obtain⟨z,Sr, -,aq⟩:=DataW.trod_int he hy;simp only [List.cons.injEq,and_true] at Sr
          refine⟨zs++ [z],?_,fun r hr=> ?_⟩
          · rw [List.take_add_one,List.getElem?_eq_getElem E6,g1,Sr];simp
          · rcases List.mem_append.1 hr with hr|hr
            · exact g2 r hr
            · rw [List.mem_singleton.1 hr];exact aq
      obtain⟨zs,g1,g2⟩:=key m (Nat.le_refl _);rw [List.take_of_length_le Ab] at g1
      refine⟨zs,?_,g1,g2⟩;have:=congrArg List.length g1;simp at this;omega
    · cases h
theorem ct{α:Type}{l:List α}(h:l.length=2):∃a b,l= [a,b]:=by
  match l,h with
  | [a,b],_=>exact⟨a,b,rfl⟩
theorem Dw.ll{P:Program}{f:FuncId}{args:List Value}{v:Value}(w:World)(h:Dw P f args [wh w] v):Calls P f args.toArray w fun e w'=>e= .returned v/\hle (wh w) (wh w'):=
  (h w [] (by simpa using ff w)).mono fun e w' ⟨own,s,he,ho⟩=>⟨he,by subst ho;exact s.le _ Am⟩
theorem wf_u8{z:Int}(h:(Lit.int .u8 z).wf=true):∃n:Nat,z=n/\n<256:=by
  have e1:IntKind.u8.min=0:=rfl;have e2:IntKind.u8.max=255:=rfl;simp [Lit.wf,e1,e2] at h
  exact⟨z.toNat,by omega,by omega⟩
theorem wf_i64{z:Int}(h:(Lit.int .i64 z).wf=true): -9223372036854775808≤z/\z≤9223372036854775807:=by
  have e1:IntKind.i64.min= -9223372036854775808:=rfl;have e2:IntKind.i64.max=9223372036854775807:=rfl;simp [Lit.wf,e1,e2] at h
  exact h
end Go.SL
end
section
namespace Go.SL
theorem Gm{P:Program}{k:IntKind}{j:Int}{y:Nat}{code:BoundsCode}(h0:0≤j)(h1:j≤y)(w:World):(Instr.sliceBound (.int k j) y code).run P w= .ok j.toNat w:=by
  simp [Instr.sliceBound,asIntOf,h0,h1]
def sub(base:Option Addr)(l m sz:Nat):Option Addr:=if m=l then base else base.map (·.add (l*sz))
theorem sub_zero(base:Option Addr)(m sz:Nat):sub base 0 m sz=base:=by
  unfold sub;split
  · rfl
  · cases base <;>simp [add_zero']
section
variable {P:Program} {own:List CA} {n:Nat} {env:Env} {o:Oper}
theorem Hp{t e:TypeId}{sz:Nat}{x y:Operand}{base:Option Addr}{len cap:Nat}{k:IntKind}{j:Int} [h1:OZ P t e sz](ho:o.op= .slice t x none (some y) none)(hx:ev env x=some (.slice base len cap))(hy:ev env y=some (.int k j))
    (h0:0≤j) (hj:j≤cap):DG P own n o env (.slice base j.toNat cap):=
  DC (by rw [ho];rfl) fun a w ha=>by
    have hs:=sub_zero base cap sz;unfold sub at hs
    simp only [Nat.zero_mul] at hs
    simp [execOp,ho,ha.eval hx,ha.eval hy,Instr.sliceAt,Instr.slice,Instr.sliceBounds,Di h1.u,h1.s,Gm h0 hj];intro h;rw [if_neg h] at hs;exact hs
theorem Io{t e:TypeId}{sz:Nat}{x y:Operand}{base:Option Addr}{len cap:Nat}{k:IntKind}{j:Int} [h1:OZ P t e sz](ho:o.op= .slice t x (some y) none none)(hx:ev env x=some (.slice base len cap))(hy:ev env y=some (.int k j))
    (h0:0≤j) (hj:j≤len):DG P own n o env (.slice (sub base j.toNat cap sz) (len - j.toNat) (cap - j.toNat)):=
  DC (by rw [ho];rfl) fun a w ha=>by
    simp [execOp,ho,ha.eval hx,ha.eval hy,Instr.sliceAt,Instr.slice,Instr.sliceBounds,Di h1.u,h1.s,Gm h0 hj,sub]
end
section
variable {P:Program} {own:List CA} {n:Nat} {env:Env} {o:Oper}
theorem D7{t:TypeId}{x:Operand}{k:Nat}{base:Option Addr}{cs:List Value}{v:Value} [ty:az P t](ho:o.op= .load t x)(hx:ev env x=some (Rb base k))(m:Ds own base cs)(hv:cs[k]?=some v):DG P own n o env v:=Zr ho hx hv
theorem LG{t:TypeId}{x:Operand}{k:Nat}{base:Option Addr}{cs:List Value}{v u:Value} [ty:dR P t 2](ho:o.op= .load t x)(hx:ev env x=some (Rb base k))(m:Ds own base cs)(hv:cs[k]?=some v)(hu:cs[k+1]?=some u):DG P own n o env (.agg ⟨[v,u]⟩):=
  I5 (vs:= [v,u]) ho hx (Nat.succ_pos 1) rfl fun j w hj=>by
    match j,hj with
    |0,hj=>simp at hj;subst hj;exact hv
    |1,hj=>simp at hj;subst hj;exact hu
end
theorem Sl.take{h:CA}{base:Option Addr}{cs:List Value}(s:Sl h base cs)(k:Nat):Sl h base (cs.take k):=
  ⟨fun j v hj=>s.cell j v (by rw [List.getElem?_take] at hj;split at hj <;>first|exact hj|cases hj)⟩
theorem Sl.drop{h:CA}{base:Option Addr}{cs:List Value}(s:Sl h base cs)(l m sz:Nat)(hl:cs.length≤m*sz):Sl h (sub base l m sz) (cs.drop (l*sz)):=
  ⟨fun j v hj=>by
    rw [List.getElem?_drop] at hj
    obtain⟨a,arr,T,fz,h1,h2,h3,h4⟩:=s.cell _ v hj;have E6:=(List.getElem?_eq_some_iff.1 hj).1;have Ns:m≠l:=fun e=>by subst e;omega
    obtain⟨b,off,sp⟩:=a;simp only at h2;subst h2;subst h1
    refine⟨⟨b,off+l*sz,Option.none⟩,arr,T,fz,?_,rfl,h3,by simpa [Nat.add_assoc] using h4⟩;simp [sub,Ns,Es]⟩
section
variable {P:Program} {r:Option Nat} {F:CA} {n:Nat} {Q:DD} {env:Env} {own own' rest:List CA} {ds:List Deferred}
theorem Gk{S:Type}(E:S->Env)(O:S->List CA)(I:S->Prop){c y:Code}{Q2 Q3:DD}
    (h1:DI P r F n c (Re (fun env' own' ay=>ay=ds/\∃s,(Sub (E s) env'/\∀w,Sat (F::own') w->Sat (F::O s) w)/\I s) Q3) env own ds) (h2:∀s,I s->DI P r F n y Q2 (E s) (O s) ds):
    DI P r F n c (Re (DI P r F n y Q2) Q3) env own ds:=by
  refine h1.mono fun e env' own' ay h=> ?_
  cases e with
  | normal=>
    obtain⟨rfl,s,⟨g1,g2⟩,hI⟩:=h;exact DI.weaken g1 g2 (h2 s hI)
  |_=>exact h
end
def kindOf:Op->Nat
  | .move _| .assign _| .pick .. | .extract .. | .makeFunc .. =>0
  | .unOp .. =>0
  | .binOp op .. =>match op with
    | .eql| .neq| .lss| .leq| .gtr| .geq=>2
    |_=>1
  | .load .. | .fieldAddr .. | .indexAddr .. | .index .. | .field .. =>3
  | .call _=>4
  |_=>5
theorem gk(k:Nat){q:Bool}{P:Program}{r:Option Nat}{F:CA}{n:Nat}{Q:DD}{env:Env}{own:List CA}{ds:List Deferred}{all:Array Oper}{l:List Oper}{o:Oper}(_:kindOf o.op=k)
    (h:DE q P r F n all (o::l) Q env own ds):DE q P r F n all (o::l) Q env own ds:=h
end Go.SL
end
