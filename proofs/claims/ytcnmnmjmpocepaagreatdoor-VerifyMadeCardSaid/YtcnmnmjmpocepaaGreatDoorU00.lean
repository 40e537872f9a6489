/- Facts that a closed search shows: each is what is asked, if the search shows it. -/
import Derived.KernelRfl
import Derived.CallsIn
import Derived.OrdersIn
import Derived.RangeFuncIn
import Derived.RangeFuncCalls
import Derived.RangeFuncLeaves
set_option linter.unusedVariables false
set_option linter.unusedSimpArgs false
set_option linter.unusedSectionVars false
set_option maxRecDepth 100000
set_option maxHeartbeats 16000000
section
namespace Go
theorem Aa{P:Prop}(h:P:=by exact rfl):P:=h
theorem Ab{P:Prop}(h:P:=by omega):P:=h
theorem Ac{P:Prop}(h:P:=by kernel_rfl):P:=h
theorem Ad{P:Prop}(h:P:=by assumption):P:=h
theorem Ae{P:Prop}(h:P:=by decide):P:=h
theorem Af{P:Prop}(h:P:=by first|exact CS rfl rfl|exact CG rfl rfl):P:=h
theorem Ag{P:Prop}(h:P:=by exact Vh rfl rfl rfl rfl rfl):P:=h
theorem Ah{P:Prop}(h:P:=by first|exact DI rfl (by exact rfl) rfl (by exact rfl)|exact CV rfl rfl):P:=h
theorem Ai{P:Prop}(h:P:=by infer_instance):P:=h
theorem Aj{P:Prop}(h:P:=by exact HY rfl rfl rfl):P:=h
theorem Ak{P:Prop}(h:P:=by simp):P:=h
theorem Al{P:Prop}(h:P:=by exact IM rfl rfl):P:=h
theorem Am{P:Prop}(h:P:=by exact CS rfl rfl):P:=h
theorem Ao{P:Prop}(h:P:=by exact Lr rfl rfl rfl):P:=h
theorem Ap{P:Prop}(h:P:=by exact GN rfl rfl rfl (by omega) (by omega)):P:=h
theorem Aq{P:Prop}(h:P:=by simp;omega):P:=h
theorem Ar{P:Prop}(h:P:=by exact GM rfl rfl (by exact rfl)):P:=h
theorem As{P:Prop}(h:P:=by rfl):P:=h
theorem Au{P:Prop}(h:P:=by exact CG rfl rfl):P:=h
theorem Av{P:Prop}(h:P:=by exact Lo rfl rfl rfl):P:=h
theorem Aw{P:Prop}(h:P:=by exact JS rfl rfl rfl (by omega) (by omega)):P:=h
theorem Ax{P:Prop}(h:P:=by simp only [Dw,List.length_cons,List.length_nil];omega):P:=h
theorem Ay{P:Prop}(h:P:=by(simp only [List.length_map];omega)):P:=h
theorem Az{P:Prop}(h:P:=by exact D5 rfl (by exact rfl) rfl (by exact rfl) (by exact rfl)):P:=h
theorem AA{P:Prop}(h:P:=by first|exact DI rfl (by exact rfl) rfl (by exact rfl)|exact CV rfl rfl|exact CD rfl rfl rfl (by omega) (by omega) (by omega)|exact D2 rfl (by exact rfl) (by infer_instance) (by assumption)):P:=h
theorem AB{P:Prop}(h:P:=by first|exact CS rfl rfl|exact CG rfl rfl|exact Ex rfl rfl rfl):P:=h
theorem AC{P:Prop}(h:P:=by exact Lq rfl rfl rfl):P:=h
theorem AD{P:Prop}(h:P:=by exact DI rfl (by exact rfl) rfl (by exact rfl)):P:=h
theorem AE{P:Prop}(h:P:=by first|exact CD rfl rfl rfl (by omega) (by omega) (by(simp only [List.length_map];omega))|exact D2 rfl (by exact rfl) (by infer_instance) (by assumption)):P:=h
theorem AF{P:Prop}(h:P:=by first|exact DI rfl (by exact rfl) rfl (by exact rfl)|exact CV rfl rfl|exact D5 rfl (by exact rfl) rfl (by exact rfl) (by exact rfl)):P:=h
theorem AG{P:Prop}(h:P:=by first|exact HY rfl rfl rfl|exact Lq rfl rfl rfl):P:=h
theorem AH{P:Prop}(h:P:=by first|exact CS rfl rfl|exact CG rfl rfl|exact DU rfl rfl):P:=h
theorem AI{P:Prop}(h:P:=by first|exact DI rfl (by exact rfl) rfl (by exact rfl)|exact CV rfl rfl|exact D5 rfl (by exact rfl) rfl (by exact rfl) (by exact rfl)|exact CD rfl rfl rfl (by omega) (by omega) (by omega)|exact Iv rfl (by exact rfl) (by infer_instance) (by assumption) (by assumption) (by assumption)):P:=h
theorem AJ{P:Prop}(h:P:=by first|exact CS rfl rfl|exact CG rfl rfl|exact Ds rfl rfl rfl):P:=h
theorem AK{P:Prop}(h:P:=by exact JU rfl (by exact rfl)):P:=h
theorem AL{P:Prop}(h:P:=by first|exact CS rfl rfl|exact CG rfl rfl|exact DU rfl rfl|exact Ex rfl rfl rfl):P:=h
theorem AM{P:Prop}(h:P:=by simp only [List.length_cons,List.length_nil];omega):P:=h
theorem AN{P:Prop}(h:P:=by first|exact HY rfl rfl rfl|exact Lr rfl rfl rfl):P:=h
theorem AO{P:Prop}(h:P:=by first|exact CS rfl rfl|exact CG rfl rfl|exact DK rfl rfl rfl):P:=h
theorem AP{P:Prop}(h:P:=by first|exact CS rfl rfl|exact CG rfl rfl|exact Ds rfl rfl rfl|exact DK rfl rfl rfl):P:=h
theorem AQ{P:Prop}(h:P:=by exact EY rfl rfl (by exact rfl) (by exact rfl) (by exact rfl) (by exact rfl) (by exact rfl)):P:=h
theorem AR{P:Prop}(h:P:=by first|exact DI rfl (by exact rfl) rfl (by exact rfl)|exact D5 rfl (by exact rfl) rfl (by exact rfl) (by exact rfl)):P:=h
theorem AS{P:Prop}(h:P:=by first|exact CS rfl rfl|exact CG rfl rfl|exact DK rfl rfl rfl|exact Ex rfl rfl rfl):P:=h
theorem AT{P:Prop}(h:P:=by first|exact CS rfl rfl|exact Ds rfl rfl rfl):P:=h
theorem AU{P:Prop}(h:P:=by exact Lp rfl rfl rfl):P:=h
theorem AV{P:Prop}(h:P:=by exact DR rfl rfl rfl):P:=h
theorem AW{P:Prop}(h:P:=by first|exact CS rfl rfl|exact CG rfl rfl|exact El rfl rfl):P:=h
theorem AX{P:Prop}(h:P:=by first|exact DI rfl (by exact rfl) rfl (by exact rfl)|exact CV rfl rfl|exact D5 rfl (by exact rfl) rfl (by exact rfl) (by exact rfl)|exact CD rfl rfl rfl (by omega) (by omega) (by omega)|exact EX rfl rfl (by assumption)|exact D2 rfl (by exact rfl) (by infer_instance) (by assumption)):P:=h
theorem AY{P:Prop}(h:P:=by first|exact CS rfl rfl|exact CG rfl rfl|exact DK rfl rfl rfl|exact DU rfl rfl):P:=h
theorem AZ{P:Prop}(h:P:=by first|exact DI rfl (by exact rfl) rfl (by exact rfl)|exact CV rfl rfl|exact D5 rfl (by exact rfl) rfl (by exact rfl) (by exact rfl)|exact CD rfl rfl rfl (by omega) (by omega) (by omega)|exact Iw rfl (by exact rfl) (by infer_instance) (by assumption) (by assumption)):P:=h
theorem A0{P:Prop}(h:P:=by first|exact DI rfl (by exact rfl) rfl (by exact rfl)|exact CV rfl rfl|exact CD rfl rfl rfl (by omega) (by omega) (by omega)|exact Mg rfl (by exact rfl) (by infer_instance) (by assumption) (by assumption) (by assumption) (by assumption)):P:=h
theorem A1{P:Prop}(h:P:=by first|exact CS rfl rfl|exact CG rfl rfl|exact DR rfl rfl rfl):P:=h
theorem A2{P:Prop}(h:P:=by first|exact CS rfl rfl|exact CG rfl rfl|exact El rfl rfl|exact Ex rfl rfl rfl):P:=h
theorem A3{P:Prop}(h:P:=by first|exact CS rfl rfl|exact CG rfl rfl|exact Ds rfl rfl rfl|exact DU rfl rfl|exact Ex rfl rfl rfl):P:=h
theorem A4{P:Prop}(h:P:=by first|exact IM rfl rfl|exact GM rfl rfl (by exact rfl)):P:=h
theorem A5{P:Prop}(h:P:=by first|exact HY rfl rfl rfl|exact Lo rfl rfl rfl):P:=h
theorem A6{P:Prop}(h:P:=by first|exact HY rfl rfl rfl|exact Ni rfl rfl rfl|exact Lp rfl rfl rfl|exact Lq rfl rfl rfl|exact Lr rfl rfl rfl|exact Lo rfl rfl rfl):P:=h
theorem A7{P:Prop}(h:P:=by first|assumption|exact rfl):P:=h
theorem A8{P:Prop}(h:P:=by first|exact CD rfl rfl rfl (by omega) (by omega) (by omega)|exact D2 rfl (by exact rfl) (by infer_instance) (by assumption)):P:=h
theorem A9{P:Prop}(h:P:=by exact Ni rfl rfl rfl):P:=h
theorem Ba{P:Prop}(h:P:=by first|exact CG rfl rfl|exact DR rfl rfl rfl):P:=h
theorem Bb{P:Prop}(h:P:=by first|exact CS rfl rfl|exact DR rfl rfl rfl):P:=h
theorem Bc{P:Prop}(h:P:=by first|exact HY rfl rfl rfl|exact Lp rfl rfl rfl):P:=h
theorem Bd{P:Prop}(h:P:=by first|exact DI rfl (by exact rfl) rfl (by exact rfl)|exact CV rfl rfl|exact D5 rfl (by exact rfl) rfl (by exact rfl) (by exact rfl)|exact CD rfl rfl rfl (by omega) (by omega) (by omega)):P:=h
theorem Be{P:Prop}(h:P:=by simp only [List.length_cons,List.length_nil]):P:=h
theorem Bf{P:Prop}(h:P:=by first|exact CS rfl rfl|exact CG rfl rfl|exact Ng rfl rfl):P:=h
theorem Bg{P:Prop}(h:P:=by first|exact CS rfl rfl|exact CG rfl rfl|exact Ds rfl rfl rfl|exact DU rfl rfl):P:=h
theorem Bh{P:Prop}(h:P:=by first|exact CD rfl rfl rfl (by omega) (by omega) (by omega)|exact Mg rfl (by exact rfl) (by infer_instance) (by assumption) (by assumption) (by assumption) (by assumption)):P:=h
theorem Bi{P:Prop}(h:P:=by first|exact CS rfl rfl|exact DU rfl rfl):P:=h
theorem Bj{P:Prop}(h:P:=by first|exact CS rfl rfl|exact CG rfl rfl|exact Ds rfl rfl rfl|exact DK rfl rfl rfl|exact DU rfl rfl|exact El rfl rfl|exact Ng rfl rfl|exact Ex rfl rfl rfl|exact DR rfl rfl rfl):P:=h
theorem Bk{P:Prop}(h:P:=by first|rfl|assumption):P:=h
theorem Bl{P:Prop}(h:P:=by first|exact CV rfl rfl|exact D5 rfl (by exact rfl) rfl (by exact rfl) (by exact rfl)):P:=h
theorem Bm{P:Prop}(h:P:=by first|exact HY rfl rfl rfl|exact Lq rfl rfl rfl|exact Lo rfl rfl rfl):P:=h
theorem Bn{P:Prop}(h:P:=by first|exact DI rfl (by exact rfl) rfl (by exact rfl)|exact CV rfl rfl|exact CD rfl rfl rfl (by omega) (by omega) (by(simp only [List.length_map];omega))|exact D2 rfl (by exact rfl) (by infer_instance) (by assumption)):P:=h
theorem Bo{P:Prop}(h:P:=by first|exact CG rfl rfl|exact Ng rfl rfl):P:=h
theorem Bp{P:Prop}(h:P:=by first|exact CD rfl rfl rfl (by omega) (by omega) (by omega)|exact Iv rfl (by exact rfl) (by infer_instance) (by assumption) (by assumption) (by assumption)):P:=h
theorem Bq{P:Prop}(h:P:=by first|exact CS rfl rfl|exact CG rfl rfl|exact Ds rfl rfl rfl|exact El rfl rfl):P:=h
theorem Br{P:Prop}(h:P:=by first|exact CS rfl rfl|exact CG rfl rfl|exact Ds rfl rfl rfl|exact DK rfl rfl rfl|exact El rfl rfl):P:=h
theorem Bs{P:Prop}(h:P:=by first|exact CS rfl rfl|exact El rfl rfl):P:=h
theorem Bt{P:Prop}(h:P:=by exact Gl rfl rfl rfl (by omega) (by omega)):P:=h
theorem Bu{P:Prop}(h:P:=by exact DU rfl rfl):P:=h
theorem Bv{P:Prop}(h:P:=by exact El rfl rfl):P:=h
theorem Bw{P:Prop}(h:P:=by first|exact CS rfl rfl|exact CG rfl rfl|exact DK rfl rfl rfl|exact DU rfl rfl|exact Ex rfl rfl rfl):P:=h
theorem Bx{P:Prop}(h:P:=by first|exact DI rfl (by exact rfl) rfl (by exact rfl)|exact CV rfl rfl|exact CD rfl rfl rfl (by omega) (by omega) (by omega)|exact EX rfl rfl (by assumption)|exact D2 rfl (by exact rfl) (by infer_instance) (by assumption)):P:=h
theorem By{P:Prop}(h:P:=by first|exact Lp rfl rfl rfl|exact Lr rfl rfl rfl):P:=h
theorem Bz{P:Prop}(h:P:=by first|exact DI rfl (by exact rfl) rfl (by exact rfl)|exact CV rfl rfl|exact CD rfl rfl rfl (by omega) (by omega) (by omega)|exact EX rfl rfl (by assumption)):P:=h
theorem BA{P:Prop}(h:P:=by simp only [Mk.lock,Dw,List.length_cons,List.length_nil];omega):P:=h
theorem BB{P:Prop}(h:P:=by simp only [Int.toNat_natCast,List.length_cons,List.length_nil];omega):P:=h
theorem BC{P:Prop}(h:P:=by exact CV rfl rfl):P:=h
theorem BD{P:Prop}(h:P:=by exact CD rfl rfl rfl (by omega) (by omega) (by omega)):P:=h
theorem BE{P:Prop}(h:P:=by exact QH rfl rfl rfl):P:=h
theorem BF{P:Prop}(h:P:=by first|exact GM rfl rfl (by exact rfl)|exact G0 rfl rfl rfl (by omega) (by omega)):P:=h
theorem BG{P:Prop}(h:P:=by first|exact DI rfl (by exact rfl) rfl (by exact rfl)|exact CD rfl rfl rfl (by omega) (by omega) (by(simp only [List.length_map];omega))|exact D2 rfl (by exact rfl) (by infer_instance) (by assumption)):P:=h
theorem BH{P:Prop}(h:P:=by first|exact Ni rfl rfl rfl|exact Lq rfl rfl rfl):P:=h
theorem BI{P:Prop}(h:P:=by first|exact CS rfl rfl|exact CG rfl rfl|exact DK rfl rfl rfl|exact DR rfl rfl rfl):P:=h
theorem BJ{P:Prop}(h:P:=by first|exact CD rfl rfl rfl (by omega) (by omega) (by omega)|exact PJ rfl (by exact rfl) (by infer_instance) (by assumption)):P:=h
theorem BK{P:Prop}(h:P:=by first|exact CS rfl rfl|exact CG rfl rfl|exact Ds rfl rfl rfl|exact DK rfl rfl rfl|exact DU rfl rfl|exact El rfl rfl|exact DR rfl rfl rfl):P:=h
theorem BL{P:Prop}(h:P:=by first|exact CG rfl rfl|exact DU rfl rfl):P:=h
theorem BM{P:Prop}(h:P:=by first|exact CS rfl rfl|exact DK rfl rfl rfl):P:=h
theorem BN{P:Prop}(h:P:=by first|exact CS rfl rfl|exact CG rfl rfl|exact DK rfl rfl rfl|exact El rfl rfl):P:=h
theorem BO{P:Prop}(h:P:=by first|omega|(simp only [List.length_map];omega)|(simp only [List.length_cons,List.length_nil];omega)):P:=h
theorem BP{P:Prop}(h:P:=by first|exact Vh rfl rfl rfl rfl rfl|exact Nh rfl rfl rfl rfl rfl|exact Vg rfl rfl rfl rfl rfl):P:=h
theorem BR{P:Prop}(h:P:=by first|exact CS rfl rfl|exact Ex rfl rfl rfl):P:=h
theorem BS{P:Prop}(h:P:=by first|exact CG rfl rfl|exact Ds rfl rfl rfl):P:=h
theorem BT{P:Prop}(h:P:=by first|exact D5 rfl (by exact rfl) rfl (by exact rfl) (by exact rfl)|exact CD rfl rfl rfl (by omega) (by omega) (by omega)|exact D2 rfl (by exact rfl) (by infer_instance) (by assumption)|exact Iw rfl (by exact rfl) (by infer_instance) (by assumption) (by assumption)):P:=h
theorem BU{P:Prop}(h:P:=by first|exact D5 rfl (by exact rfl) rfl (by exact rfl) (by exact rfl)|exact CD rfl rfl rfl (by omega) (by omega) (by omega)|exact D2 rfl (by exact rfl) (by infer_instance) (by assumption)):P:=h
theorem BV{P:Prop}(h:P:=by first|exact HY rfl rfl rfl|exact Ni rfl rfl rfl|exact Lp rfl rfl rfl):P:=h
theorem BW{P:Prop}(h:P:=by exact G0 rfl rfl rfl (by omega) (by omega)):P:=h
theorem BX{P:Prop}(h:P:=by first|exact Lr rfl rfl rfl|exact Lo rfl rfl rfl):P:=h
theorem BY{P:Prop}(h:P:=by exact⟨rfl,rfl,rfl,rfl⟩):P:=h
theorem BZ{P:Prop}(h:P:=by exact⟨rfl,rfl,rfl,rfl,rfl⟩):P:=h
end Go
end
section
namespace Go.SL
inductive HK
  |b (n:Nat)
  |os
  |fz (n:Nat)
inductive HV
  |o (x:Obj)
  |os (x:Os) (y:Array (Nat×ByteArray))
  |fz (f:Nat->Bool)
abbrev B6:=HK->Option HV
abbrev Env:=List (Nat×Value)
def wh(w:World):B6
  | .b n=>w.heap[n]?.map HV.o
  | .os=>some (.os w.os w.output)
  | .fz n=>if n<w.heap.size then some (.fz fun off=>w.frozen? ⟨n,off,none⟩) else none
theorem MX{w:World}{n:Nat}{o:Obj}:wh w (.b n)=some (.o o)↔w.heap[n]?=some o:=by
  simp only [wh,Option.map_eq_some_iff];exact⟨fun⟨x,h,e⟩=>by cases e;exact h,fun h=>⟨o,h,rfl⟩⟩
def hle(h k:B6):Prop:=∀b o,h b=some o->k b=some o
def DM(h k:B6):Prop:=∀b o o',h b=some o->k b=some o'->False
def Co(b:Nat)(o:Obj):B6
  | .b x=>if x=b then some (.o o) else none
  |_=>none
def emp:B6:=fun _=>none
def join(h k:B6):B6:=fun x=>match h x with|some o=>some o|none=>k x
def CB:List B6->B6
  | []=>emp
  |h::r=>join h (CB r)
structure Sat(hs:List B6)(w:World):Prop where
  le:∀h∈hs,hle h (wh w)
  dj:hs.Pairwise DM
theorem DM.symm{h k:B6}(d:DM h k):DM k h:=fun b o o' x y=>d b o' o y x
theorem hle.refl(h:B6):hle h h:=fun _ _ x=>x
theorem hle.trans{h k l:B6}(a:hle h k)(b:hle k l):hle h l:=fun _ _ x=>b _ _ (a _ _ x)
@[simp] theorem CT (b:Nat) (o:Obj):Co b o (.b b)=some (.o o):=by simp [Co]
theorem Rc{b:Nat}{x:HK}{o:Obj}{o':HV}(h:Co b o x=some o'):x= .b b/\o'= .o o:=by
  cases x with
  | b n=>
    simp only [Co] at h;split at h
    · rename_i e;subst e;cases h;exact⟨rfl,rfl⟩
    · cases h
  |os=>cases h
  |fz n=>cases h
theorem Ee{b:Nat}{o:Obj}{k:B6}:hle (Co b o) k↔k (.b b)=some (.o o):=
  ⟨fun h=>h (.b b) (.o o) (CT b o),fun h x o' hx=>by obtain⟨rfl,rfl⟩:=Rc hx;exact h⟩
theorem Hy{h k:B6}:hle h (join h k):=fun b o x=>by simp [join,x]
theorem join_some{h k:B6}{b:HK}{o:HV}(x:join h k b=some o):h b=some o∨k b=some o:=by
  unfold join at x;split at x
  · left;rename_i o' e;rw [e,<-x]
  · right;exact x
theorem Gh{h k:B6}(d:DM h k):hle k (join h k):=fun b o x=>by
  unfold join;split
  · rename_i o' e;exact(d b o' o e x).elim
  · exact x
theorem Yx{h k l:B6}(a:hle h l)(b:hle k l):hle (join h k) l:=fun x o hx=>by
  rcases join_some hx with e|e
  · exact a _ _ e
  · exact b _ _ e
theorem Hs{h k l:B6}(a:DM l h)(b:DM l k):DM l (join h k):=fun x o o' y z=>by
  rcases join_some z with e|e
  · exact a _ _ _ y e
  · exact b _ _ _ y e
theorem Sat.perm{hs hs':List B6}{w:World}(h:Sat hs w)(p:hs.Perm hs'):Sat hs' w:=
  ⟨fun k hk=>h.le k (p.mem_iff.2 hk),(p.pairwise_iff (fun d=>DM.symm d)).1 h.dj⟩
theorem Sat.sub{hs hs':List B6}{w:World}(h:Sat hs w)(p:hs'.Sublist hs):Sat hs' w:=
  ⟨fun k hk=>h.le k (p.subset hk),h.dj.sublist p⟩
theorem Sat.tail{k:B6}{hs:List B6}{w:World}(h:Sat (k::hs) w):Sat hs w:=h.sub (List.sublist_cons_self _ _)
theorem Zt{w w':World}(e:w'.heap=w.heap)(e2:w'.os=w.os)(e3:w'.output=w.output):wh w'=wh w:=by
  funext k
  cases k <;>simp [wh,World.frozen?,e,e2,e3]
theorem Sat.heap{hs:List B6}{w w':World}(h:Sat hs w)(e:w'.heap=w.heap)(e2:w'.os=w.os)(e3:w'.output=w.output):Sat hs w':=
  ⟨fun k hk=>by rw [Zt e e2 e3];exact h.le k hk,h.dj⟩
theorem Sat.swap{h k:B6}{hs:List B6}{w:World}(s:Sat (h::k::hs) w):Sat (k::h::hs) w:=s.perm (List.Perm.swap _ _ _)
theorem Sat.at{hs:List B6}{w:World}{h:B6}{b:Nat}{o:Obj}(s:Sat hs w)(hm:h∈hs)(hb:h (.b b)=some (.o o)):w.heap[b]?=some o:=MX.1 (s.le h hm _ _ hb)
theorem Sat.kF{h h':B6}{hs:List B6}{w w':World}(s:Sat (h::hs) w)(hl:hle h' (wh w'))
    (keep:∀b o,h b=none->wh w b=some o->wh w' b=some o) (my:∀b o,h' b=some o->wh w b=none∨∃o',h b=some o'):Sat (h'::hs) w':=by
  obtain⟨d1,d2⟩:=List.pairwise_cons.1 s.dj;refine⟨fun k hk=> ?_,List.pairwise_cons.2 ⟨fun k hk b o o' x y=> ?_,d2⟩⟩
  · rcases List.mem_cons.1 hk with rfl|hk
    · exact hl
    · intro b o x;have hw:=s.le k (List.mem_cons_of_mem _ hk) b o x;refine keep b o ?_ hw;cases e:h b with
      |none=>rfl
      |some o'=>exact(d1 k hk b o' o e x).elim
  · have hw:=s.le k (List.mem_cons_of_mem _ hk) b o' y;rcases my b o x with e|⟨o2,e⟩
    · rw [hw] at e;cases e
    · exact d1 k hk b o2 o' e y
theorem Wd{a b:Array Obj}(h:∀k:Nat,(a[k]?).isSome=(b[k]?).isSome):a.size=b.size:=by
  rcases Nat.lt_trichotomy a.size b.size with hl|e|hl
  · have:=h a.size;rw [Array.getElem?_eq_none (Nat.le_refl _),Array.getElem?_eq_getElem hl] at this;cases this
  · exact e
  · have:=h b.size;rw [Array.getElem?_eq_none (Nat.le_refl b.size),Array.getElem?_eq_getElem hl] at this;cases this
theorem bW{w w':World}{b:Nat}(h0:w'.heap.size=w.heap.size)(h1:w'.os=w.os)(h2:w'.output=w.output)(h3:∀k,k≠b->w'.heap[k]?=w.heap[k]?)(h4:∀off,w'.frozen? ⟨b,off,none⟩=w.frozen? ⟨b,off,none⟩):
    ∀k,k≠ .b b->wh w' k=wh w k:=by
  intro k hk;cases k with
  |b n=>simp only [wh];rw [h3 n (fun e=>hk (by rw [e]))]
  |os=>simp only [wh,h1,h2]
  | fz n=>
    simp only [wh,h0]
    congr 3
    funext off
    by_cases e:n=b
    · subst e;exact h4 off
    · simp only [World.frozen?,h3 n e]
theorem Sat.set{hs:List B6}{w w':World}{b:Nat}{o o':Obj}(s:Sat (Co b o::hs) w)(h:w'.heap[b]?=some o')(h1:w'.os=w.os)(h2:w'.output=w.output)(h3:∀k,k≠b->w'.heap[k]?=w.heap[k]?)
    (h4:∀off,w'.frozen? ⟨b,off,none⟩=w.frozen? ⟨b,off,none⟩):Sat (Co b o'::hs) w':=by
  have hb:w.heap[b]?=some o:=MX.1 (s.le _ (List.mem_cons_self ..) _ _ (CT b o));have kb:=bW (Wd fun k=>by
    by_cases e:k=b
    · rw [e,h,hb];rfl
    · rw [h3 k e]) h1 h2 h3 h4
  refine s.kF (Ee.2 (MX.2 h)) (fun k u hk hu=> ?_) (fun k u hk=> ?_)
  · rw [kb k (fun e=>by subst e;simp at hk)];exact hu
  · obtain⟨rfl, -⟩:=Rc hk;exact .inr ⟨_,CT _ _⟩
def Ou:Obj->Nat->Bool
  | .cells _ _ (lo,hi),off=>lo≤off && off<hi
  |_,_=>false
theorem Mp{w:World}{b:Nat}{o:Obj}(h:w.heap[b]?=some o)(off:Nat):w.frozen? ⟨b,off,none⟩=Ou o off:=by
  simp only [World.frozen?,h];cases o <;>rfl
theorem Sat.put{hs:List B6}{w w':World}{b:Nat}{o o':Obj}(s:Sat (Co b o::hs) w)(h:w'.heap[b]?=some o')(h1:w'.os=w.os)(h2:w'.output=w.output)(h3:∀k,k≠b->w'.heap[k]?=w.heap[k]?)
    (h4:∀off,Ou o' off=Ou o off):Sat (Co b o'::hs) w':=
  s.set h h1 h2 h3 fun off=>by rw [Mp h,Mp (MX.1 (s.le _ (List.mem_cons_self ..) _ _ (CT b o))),h4]
theorem SH(w:World)(o:Obj):hle (wh w) (wh {w with heap:=w.heap.push o}):=by
  intro k x hx;cases k with
  | b n=>
    simp only [wh,Option.map_eq_some_iff] at hx ⊢
    obtain⟨y,h1,h2⟩:=hx;refine⟨y,?_,h2⟩;have Em:n<w.heap.size:=(Array.getElem?_eq_some_iff.1 h1).1;simp only [Array.getElem?_push];rw [if_neg Ab];exact h1
  |os=>exact hx
  | fz n=>
    simp only [wh] at hx ⊢
    split at hx
    · rename_i Em
      rw [if_pos Aq,<-hx]
      congr 2
      funext off
      have:({w with heap:=w.heap.push o}:World).heap[n]?=w.heap[n]?:=by
        simp only [Array.getElem?_push];rw [if_neg Ab]
      simp only [World.frozen?] at this ⊢
      rw [this]
    · cases hx
theorem D4{hs:List B6}{w:World}(s:Sat hs w)(o:Obj)(nN:∀off,Ou o off=false):Sat (Co w.heap.size o::hs) {w with heap:=w.heap.push o}:=by
  have hn:({w with heap:=w.heap.push o}:World).heap[w.heap.size]?=some o:=by simp
  have ho:wh w (.b w.heap.size)=none:=by simp [wh]
  refine⟨fun h hm=> ?_,List.pairwise_cons.2 ⟨fun h hm b o1 o2 h1 h2=> ?_,s.dj⟩⟩
  · rcases List.mem_cons.1 hm with rfl|hm
    · rw [Ee];exact MX.2 hn
    · exact(s.le h hm).trans (SH w o)
  · obtain⟨rfl, -⟩:=Rc h1;have:=s.le h hm _ o2 h2;rw [ho] at this;cases this
theorem Sat.split{h k:B6}{hs:List B6}{w:World}(s:Sat (join h k::hs) w)(d:DM h k):Sat (h::k::hs) w:=by
  obtain⟨d1,d2⟩:=List.pairwise_cons.1 s.dj;refine⟨fun l hl=> ?_,List.pairwise_cons.2 ⟨fun l hl=> ?_,List.pairwise_cons.2 ⟨fun l hl=> ?_,d2⟩⟩⟩
  · rcases List.mem_cons.1 hl with rfl|hl
    · exact Hy.trans (s.le _ (List.mem_cons_self ..))
    · rcases List.mem_cons.1 hl with rfl|hl
      · exact(Gh d).trans (s.le _ (List.mem_cons_self ..))
      · exact s.le l (List.mem_cons_of_mem _ hl)
  · rcases List.mem_cons.1 hl with rfl|hl
    · exact d
    · exact fun b o o' x y=>d1 l hl b o o' (Hy _ _ x) y
  · exact fun b o o' x y=>d1 l hl b o o' (Gh d _ _ x) y
theorem Sat.join{h k:B6}{hs:List B6}{w:World}(s:Sat (h::k::hs) w):Sat (join h k::hs) w:=by
  obtain⟨d1,d2⟩:=List.pairwise_cons.1 s.dj;obtain⟨d3,d4⟩:=List.pairwise_cons.1 d2;refine⟨fun l hl=> ?_,List.pairwise_cons.2 ⟨fun l hl=> ?_,d4⟩⟩
  · rcases List.mem_cons.1 hl with rfl|hl
    · exact Yx (s.le _ (List.mem_cons_self ..)) (s.le _ (List.mem_cons_of_mem _ (List.mem_cons_self ..)))
    · exact s.le l (List.mem_cons_of_mem _ (List.mem_cons_of_mem _ hl))
  · exact(Hs (d1 l (List.mem_cons_of_mem _ hl)).symm (d3 l hl).symm).symm
theorem Sat.CB{hs:List B6}:∀ {ks:List B6} {w:World},Sat (hs++ks) w->Sat (CB hs::ks) w:=by
  induction hs with
  | nil=>
    intro ks w s;refine⟨fun l hl=> ?_,List.pairwise_cons.2 ⟨fun _ _ _ _ _ x _=>(by cases x),s.dj⟩⟩;rcases List.mem_cons.1 hl with rfl|hl
    · intro b o x;cases x
    · exact s.le l hl
  | cons h hs ih=>
    intro ks w s;have s2:Sat (hs++(h::ks)) w:=s.perm (by simpa using(List.perm_middle (a:=h) (l₁:=hs) (l₂:=ks)).symm);have s3:=ih s2;exact s3.swap.join
theorem Sat.Hl{hs:List B6}(d:hs.Pairwise DM):∀ {ks:List B6} {w:World},Sat (SL.CB hs::ks) w->Sat (hs++ks) w:=by
  induction hs with
  |nil=>intro ks w s;exact s.tail
  | cons h hs ih=>
    intro ks w s;obtain⟨d1,d2⟩:=List.pairwise_cons.1 d;have hd:DM h (SL.CB hs):=by
      clear ih s d d2;induction hs with
      |nil=>intro b o o' _ x;cases x
      |cons k ks ih2=>exact Hs (d1 k (List.mem_cons_self ..)) (ih2 fun l hl=>d1 l (List.mem_cons_of_mem _ hl))
    have s2:=(s.split hd).swap;have s3:=ih d2 s2;exact s3.perm (by simp [List.perm_middle])
def look:Env->Nat->Option Value
  | [],_=>none
  | (j,v)::r,i=>match Nat.beq j i with
    |true=>some v
    |false=>look r i
def ev(env:Env):Operand->Option Value
  | .tmp t=>look env t
  | .const v=>some v
  | .global g=>some (.pointer (some ⟨g,0,none⟩))
  | .func f=>some (.func (.func f) #[] #[])
structure Has(n:Nat)(env:Env)(a:Act):Prop where
  size:a.tmps.size=n
  get:∀i v,look env i=some v->a.tmps[i]?=some v
theorem Has.eval{n:Nat}{env:Env}{a:Act}(h:Has n env a){x:Operand}{v:Value}(e:ev env x=some v):a.eval x=v:=by
  cases x with
  |tmp t=>simp only [ev] at e;simp [Act.eval,h.get t v e]
  |const c=>simp only [ev,Option.some.injEq] at e;exact e
  |global g=>simp only [ev,Option.some.injEq] at e;exact e
  |func f=>simp only [ev,Option.some.injEq] at e;exact e
theorem EE(i:Nat)(v:Value)(env:Env):look ((i,v)::env) i=some v:=by simp [look]
theorem Gx{i j:Nat}(v:Value)(env:Env)(h:j≠i):look ((j,v)::env) i=look env i:=by
  have:Nat.beq j i=false:=by
    cases e:Nat.beq j i with
    |false=>rfl
    |true=>exact absurd (Nat.eq_of_beq_eq_true e) h
  simp [look,this]
theorem Has.put{n:Nat}{env:Env}{a:Act}(h:Has n env a){d:Nat}(v:Value)(hd:d<n):Has n ((d,v)::env) (a.put (some d) v):=by
  refine⟨by simp [Act.put,h.size],fun i u hu=> ?_⟩;by_cases e:d=i
  · subst e;rw [EE] at hu;cases hu
    simp [Act.put,h.size,hd]
  · rw [Gx _ _ e] at hu
    have:=h.get i u hu;simp only [Act.put];rw [Array.getElem?_setIfInBounds_ne e];exact this
def Sub(env' env:Env):Prop:=∀p∈env',look env p.1=some p.2
theorem Sub.nil(env:Env):Sub [] env:=fun _ h=>by cases h
theorem Sub.cons{i:Nat}{v:Value}{env' env:Env}(h:look env i=some v)(r:Sub env' env):Sub ((i,v)::env') env:=fun p hp=>by
  rcases List.mem_cons.1 hp with rfl|hp
  · exact h
  · exact r p hp
theorem Yc{env:Env}{i:Nat}{v:Value}(h:look env i=some v):(i,v)∈env:=by
  induction env with
  |nil=>cases h
  | cons p r ih=>
    obtain⟨j,u⟩:=p;by_cases e:j=i
    · subst e;rw [EE] at h;cases h;exact List.mem_cons_self ..
    · rw [Gx _ _ e] at h;exact List.mem_cons_of_mem _ (ih h)
theorem Has.weaken{n:Nat}{env env':Env}{a:Act}(h:Has n env a)(s:Sub env' env):Has n env' a:=
  ⟨h.size,fun i v hi=>h.get i v (s _ (Yc hi))⟩
def Np:Option Nat->Fence
  |none=>Fence.wide
  |some l=>Fence.wide.inRound l
@[simp] theorem iW (r:Option Nat) (f:FuncId):(Np r).fn f=True:=by cases r <;>rfl
@[simp] theorem dW (r:Option Nat):(Np r).depth=none:=by cases r <;>rfl
@[simp] theorem Eo (r:Option Nat):(Np r).round=r:=by cases r <;>rfl
theorem E8{r:Option Nat}{P:Program}{f:FuncId}{args:Array Value}{w:World}{R:Ending->World->Prop}(k:Nat)(h:Calls P f args w R):CallsIn (Np r) k P f args w R:=by
  cases r with
  |none=>exact callsIn_wide.2 h
  |some l=>exact CallsIn.inRound l (callsIn_wide.2 h)
abbrev C4:=Exit->Env->List B6->List Deferred->Prop
def GR(F:B6)(n:Nat)(Q:C4):Exit->Act->World->Prop:=fun e a w=>
  e≠ .outgrown/\∃env own,Has n env a/\Sat (F::own) w/\Q e env own a.defers
def Db(P:Program)(r:Option Nat)(F:B6)(n:Nat)(c:Code)(Q:C4)(env:Env)(own:List B6)(ds:List Deferred):Prop:=
  ∀a w,Has n env a->a.defers=ds->Sat (F::own) w->c.wpIn (Np r) 0 P (GR F n Q) a w
def Qj(K:Env->List B6->List Deferred->Prop)(Q:C4):C4
  | .normal,env,own,ds=>K env own ds
  |e,env,own,ds=>Q e env own ds
def dH(id:Nat)(Q:C4):C4
  | .exit id',env,own,ds=>if id'=id then Q .normal env own ds else Q (.exit id') env own ds
  |e,env,own,ds=>Q e env own ds
section
variable {P:Program} {r:Option Nat} {F:B6} {n:Nat} {Q:C4} {env:Env} {own:List B6} {ds:List Deferred}
theorem GR.mk{e:Exit}{a:Act}{w:World}(he:e≠ .outgrown)(h:Has n env a)(hd:a.defers=ds)(s:Sat (F::own) w)(q:Q e env own ds):GR F n Q e a w:=
  ⟨he,env,own,h,s,hd▸q⟩
theorem Db.mono{c:Code}{Q':C4}(h:Db P r F n c Q env own ds)(hq:∀e env own ds,Q e env own ds->Q' e env own ds):Db P r F n c Q' env own ds:=
  fun a w ha hd hs=>wpIn_mono (h a w ha hd hs) fun _ _ _ ⟨he,env,own,h1,h2,h3⟩=>⟨he,env,own,h1,h2,hq _ _ _ _ h3⟩
theorem Db.weaken{c:Code}{env':Env}{own':List B6}(he:Sub env' env)(ho:∀w,Sat (F::own) w->Sat (F::own') w)(h:Db P r F n c Q env' own' ds):Db P r F n c Q env own ds:=
  fun a w ha hd hs=>h a w (ha.weaken he) hd (ho w hs)
theorem B4{x y:Code}(h:Db P r F n x (Qj (Db P r F n y Q) Q) env own ds):Db P r F n (.seq x y) Q env own ds:=
  fun a w ha hd hs=>wpIn_seq (wpIn_mono (h a w ha hd hs) fun e a' w' ⟨he,env',own',h1,h2,h3⟩=>by
    cases e with
    |normal=>exact h3 a' w' h1 rfl h2
    |outgrown=>exact absurd rfl he
    |_=>exact⟨he,env',own',h1,h2,h3⟩)
theorem Cc(h:Q .normal env own ds):Db P r F n .skip Q env own ds:=fun _ _ ha hd hs=>wpIn_skip (GR.mk Ak ha hd hs h)
theorem VV{l:Nat}(h:Q .normal env own ds):Db P r F n (.label l) Q env own ds:=fun _ _ ha hd hs=>wpIn_label (GR.mk Ak ha hd hs h)
theorem CC{id:Nat}(h:Q (.exit id) env own ds):Db P r F n (.exit id) Q env own ds:=fun _ _ ha hd hs=>wpIn_exit (GR.mk Ak ha hd hs h)
theorem Cb(h:Q .ret env own ds):Db P r F n .ret Q env own ds:=fun _ _ ha hd hs=>wpIn_ret (GR.mk Ak ha hd hs h)
theorem Xs{c:Operand}{x y:Code}(hc:ev env c=some (.bool true))(h1:Db P r F n x Q env own ds):Db P r F n (.cond c x y) Q env own ds:=
  fun a w ha hd hs=>wpIn_cond_true (ha.eval hc) (h1 a w ha hd hs)
theorem VX{c:Operand}{x y:Code}(hc:ev env c=some (.bool false))(h1:Db P r F n y Q env own ds):Db P r F n (.cond c x y) Q env own ds:=
  fun a w ha hd hs=>wpIn_cond_false (ha.eval hc) (h1 a w ha hd hs)
theorem Cf{id:Nat}{c:Code}(h:Db P r F n c (dH id Q) env own ds):Db P r F n (.block id c) Q env own ds:=
  fun a w ha hd hs=>wpIn_block (wpIn_mono (h a w ha hd hs) fun e a' w' ⟨he,env',own',h1,h2,h3⟩=>by
    cases e with
    | exit id'=>
      simp only [Exit.inBlock,dH] at h3 ⊢
      split
      · rw [if_pos Ad] at h3;exact⟨by simp,env',own',h1,h2,h3⟩
      · rw [if_neg Ad] at h3;exact⟨by simp,env',own',h1,h2,h3⟩
    |_=>exact⟨he,env',own',h1,h2,h3⟩)
theorem least{p:Nat->Prop}:∀m,p m->∃k,p k/\∀j,p j->k≤j:=by
  intro m;induction m using Nat.strongRecOn with
  | _ m ih=>
    intro h;by_cases e:∃j,j<m/\p j
    · obtain⟨j,hj,hp⟩:=e;exact ih j hj hp
    · exact⟨m,h,fun j hj=>Nat.le_of_not_lt fun Em=>e ⟨j,Em,hj⟩⟩
theorem Ml{p:Nat->Prop}(h:∃m,p m):∃k,p k/\∀j,p j->k≤j:=h.elim fun m hm=>least m hm
theorem Xt{c:Code}(I:Env->List B6->Nat->Prop)(m:Nat)
    (round:∀env own m,I env own m->Db P r F n c (Qj (fun env' own' ay=>ay=ds/\∃ID CN m',m'<m/\Sub ID env'/\(∀w,Sat (F::own') w->Sat (F::CN) w)/\I ID CN m') Q) env own ds)
    (h0:I env own m):Db P r F n (.loop c) Q env own ds:=by
  intro a w ha hd hs
  let J:Act->World->Nat->Prop:=fun a w m=>a.defers=ds/\∃env own,Has n env a/\Sat (F::own) w/\I env own m
  have hJ:J a w m:=⟨hd,env,own,ha,hs,h0⟩
  classical
  let μ:Act->World->Nat:=fun a w=>if h:∃m,J a w m then Classical.choose (Ml h) else 0
  have hμ:∀ {a w} (h:∃m,J a w m),J a w (μ a w):=fun{a w} h=>by
    simp only [μ,dif_pos h];exact(Classical.choose_spec (Ml h)).1
  have hle:∀ {a w m},J a w m->μ a w≤m:=fun{a w m} h=>by
    have hx:∃m,J a w m:=⟨m,h⟩;simp only [μ,dif_pos hx];exact(Classical.choose_spec (Ml hx)).2 m h
  refine wpIn_loop (fun a w=>∃m,J a w m) μ ⟨m,hJ⟩ (fun a w h=> ?_);obtain⟨WN,env',own',h1,h2,h3⟩:=hμ h;refine wpIn_mono (round env' own' _ h3 a w h1 WN h2) fun e a' w' ⟨he,env'',own'',g1,g2,g3⟩=> ?_
  cases e with
  | normal=>
    obtain⟨MO,ID,CN,m',Em,Je,Sw,hI⟩:=g3;have hj:J a' w' m':=⟨MO,ID,CN,g1.weaken Je,Sw w' g2,hI⟩;exact⟨⟨m',hj⟩,Nat.lt_of_le_of_lt (hle hj) Em⟩
  |outgrown=>exact absurd rfl he
  |_=>exact⟨he,env'',own'',g1,g2,g3⟩
end
end Go.SL
end
