
import Derived.Test.YtcnmnmjmpocepaaGreatDoorU00
import Derived.Test.YtcnmnmjmpocepaaGreatDoorU11
import Derived.Test.YtcnmnmjmpocepaaGreatDoorU18
set_option linter.unusedVariables false
set_option linter.unusedSimpArgs false
set_option linter.unusedSectionVars false
set_option maxRecDepth 100000
set_option maxHeartbeats 16000000
namespace Go.Proofs.YtcnmnmjmpocepaaGreatDoor
open Kd
structure Mk where
  at_:Nat
  code:List Ins
  locked:List Bool
  loops:Nat
def CK(b:List Nat)(i:Nat):Nat:=b.getD i 0
def Mk.nx(s:Mk):Mk:={s with at_:=s.at_+1}
def CJ(l:List (Int×Int)):List Ins:=l.map fun p=>⟨p.1,p.2,0⟩
def Mk.put(s:Mk)(l:List (Int×Int)):Mk:={s with code:=s.code++CJ l}
def Mk.lock(s:Mk)(k:Nat)(b:Bool):Mk:={s with locked:=s.locked.set k b}
def L8(l:List Ins)(i:Nat)(a:Int):List Ins:=match l[i]? with|none=>l|some y=>l.set i ⟨y.op,a,y.b⟩
theorem FJ(l:List Ins)(i:Nat)(a:Int):(L8 l i a).length=l.length:=by
  unfold L8;split <;>simp
def Mk.to(s:Mk)(i:Nat)(a:Int):Mk:={s with code:=L8 s.code i a}
def FA(rec:Mk->Mk)(k:Nat)(s:Mk):Mk:=
  if s.locked.getD k false then s.put [(2,2),(19,0)]
  else((rec ((s.put [(2,k),(12,0)]).lock k true)).lock k false).put [(2,k),(13,0)]
def Jj(rec:Mk->Mk)(s:Mk):Mk:=
  let s1:=rec (s.put [(2,2),(7,0)])
  (s1.to (s.code.length+1) s1.code.length).put [(2,2),(3,2)]
def HZ(b:List Nat)(rec:Mk->Mk)(s:Mk):Mk:=
  if s.loops=3 then s.put [(0,7),(3,2)]
  else
    let k:Int:=5+s.loops
    let s1:=({s with loops:=s.loops+1}.nx).put [(0,1+(CK b s.at_%2:Nat)),(3,k)]
    let s2:=rec (s1.put [(2,k),(7,0)])
    let s3:=s2.put [(2,k),(0,1),(5,0),(3,k),(6,s1.code.length)]
    let s4:=(s3.to (s1.code.length+1) s3.code.length).put [(0,0),(3,k)]
    {s4 with loops:=s4.loops - 1}
def FT(own:Nat)(op:Int)(s:Mk):Mk:=
  if own=2 then s.put [(0,5),(3,3)]
  else
    let s1:=s.put [(2,0),(2,1)]
    let s2:=if own+1=2 then(s1.put [(2,2)]).put [(2,2)] else s1
    s2.put [(op,own+1),(3,2)]
def Fb(n k:Nat):List (Int×Int):=match n%5 with
  |0=> [(2,k),(14,0),(3,3)]
  |1|2=> [(2,k),(15,0)]
  |_=> [(2,k),(16,0)]
def FG(n:Nat)(s:Mk):Mk:=match s.locked.findIdx? id with
  |none=>s
  |some k=>s.put (Fb n k)
def DA(n:Nat)(s:Mk):Mk:=match n%5 with
  |0|1=>s.put [(2,0),(10,(n%2:Nat)),(3,2)]
  |2|3=>s.put [(2,0),(2,3),(11,(n%2:Nat))]
  |_=>{s with code:=s.code++CJ [(2,1),(2,0)]++ [⟨11,1,1⟩]}
def Iq(b:List Nat)(own:Nat)(rec:Mk->Mk)(low:Bool)(s:Mk):Mk:=
  let n0:=CK b s.at_
  let s:=s.nx
  let n:=if low then n0%6 else n0
  match n%12 with
  |0=>s.nx.put [(0,(CK b s.at_%5:Nat)),(3,2)]
  |1=>s.put [(2,2),(2,3),(4,0),(3,3)]
  |2=>s.put [(2,3),(19,0)]
  |3|4=>DA (CK b s.at_) s.nx
  |5=>FG (CK b s.at_) s.nx
  |6=>FA rec 0 s
  |7=>FA rec 1 s
  |8=>FA rec 4 s
  |9=>Jj rec s
  |10=>HZ b rec s
  |_=>FT own (17+(n/12%2:Nat)) s
def NL(f:Mk->Mk):Nat->Mk->Mk
  |0,s=>s
  |i+1,s=>if s.code.length<150 then NL f i (f s) else s
def F9(b:List Nat)(own:Nat):Nat->Mk->Mk
  |0,s=>NL (Iq b own id true) (CK b s.at_%3+1) s.nx
  |d+1,s=>NL (Iq b own (F9 b own d) false) (CK b s.at_%3+1) s.nx
def E6(own:Nat):Mk:=
  let s0:Mk:=⟨0,[],List.replicate 5 false,0⟩
  let s1:=match own with
    |0=>s0.put [(9,0),(3,0),(9,1),(3,1),(0,1),(3,2)]
    |1=>s0.put [(0,2),(3,2)]
    |_=>s0
  let s2:=if own<2 then s1.put [(0,3),(3,3)] else s1
  s2.put [(2,0),(3,4)]
def IK:Nat->List Int
  |0=> []
  |1=> [1,2]
  |_=> [1,2,0,0]
def DP(b:List Nat)(own:Nat):List Ins:=((F9 b own 3 (E6 own)).put [(2,2),(20,0)]).code
def Dr(B:List Nat)(own:Nat):List Nat:=
  let b:=B.take 120
  ((b.drop (own*(b.length/3))).take (b.length/3))
structure Fit(L A:Nat)(s s':Mk):Prop where
  len:s'.code.length≤L
  at_:s'.at_≤s.at_+A
  loops:s'.loops=s.loops
  lk:s'.locked=s.locked
  ops:(∀y∈s.code,0≤y.op/\y.op≤20)->∀y∈s'.code,0≤y.op/\y.op≤20
  le:s.code.length≤s'.code.length
theorem Dw(s:Mk)(l:List (Int×Int)):(s.put l).code.length=s.code.length+l.length:=by simp [Mk.put,CJ]
def dN(l:List (Int×Int)):Bool:=l.all fun p=>decide (0≤p.1) && decide (p.1≤20)
theorem PY{l:List (Int×Int)}(h:dN l=true):∀y∈CJ l,0≤y.op/\y.op≤20:=by
  intro y hy;simp only [CJ,List.mem_map] at hy
  obtain⟨p,hp,rfl⟩:=hy;have:=List.all_eq_true.1 h p hp;simpa using this
theorem GV{s:Mk}{l:List (Int×Int)}(h:dN l=true)(hs:∀y∈s.code,0≤y.op/\y.op≤20):∀y∈(s.put l).code,0≤y.op/\y.op≤20:=by
  intro y hy;simp only [Mk.put,List.mem_append] at hy
  rcases hy with q|q
  · exact hs y q
  · exact PY h y q
theorem RF{l:List Ins}{i:Nat}{a:Int}(hs:∀y∈l,0≤y.op/\y.op≤20):∀y∈L8 l i a,0≤y.op/\y.op≤20:=by
  unfold L8
  split
  · exact hs
  · rename_i y0 e
    intro y hy;rcases List.mem_or_eq_of_mem_set hy with q|q
    · exact hs y q
    · subst q;exact hs y0 (List.mem_of_getElem? e)
theorem Fit.put{s:Mk}{l:List (Int×Int)}(h:dN l=true){L:Nat}(hL:s.code.length+l.length≤L):Fit L 0 s (s.put l):=
  ⟨by rw [Dw];exact hL,Nat.le_refl _,rfl,rfl,GV h,by rw [Dw];omega⟩
theorem Fit.nx(s:Mk):Fit s.code.length 1 s s.nx:=⟨Nat.le_refl _,Nat.le_refl _,rfl,rfl,id,Nat.le_refl _⟩
theorem Fit.trans{L A L' A':Nat}{s t u:Mk}(h:Fit L A s t)(h':Fit L' A' t u):Fit L' (A+A') s u:=
  ⟨h'.len,by have:=h.at_;have:=h'.at_;omega,h'.loops.trans h.loops,h'.lk.trans h.lk,fun q=>h'.ops (h.ops q),Nat.le_trans h.le h'.le⟩
theorem Fit.mono{L A L' A':Nat}{s t:Mk}(h:Fit L A s t)(h1:L≤L')(h2:A≤A'):Fit L' A' s t:=
  ⟨Nat.le_trans h.len h1,by have:=h.at_;omega,h.loops,h.lk,h.ops,h.le⟩
def Fits(L A:Nat)(f:Mk->Mk):Prop:=∀s:Mk,s.code.length≤153->Fit L A s (f s)
theorem RE{l:List Bool}{k:Nat}(h:l.getD k false=false):(l.set k true).set k false=l:=by
  rw [List.set_set];apply List.ext_getElem?;intro i;by_cases e:i=k
  · subst e;rw [List.getElem?_set_self'];cases hq:l[i]? with
    |none=>rfl
    |some b=>simp [List.getD,hq] at h;subst h;rfl
  · rw [List.getElem?_set_ne Ab]
theorem N8{L A:Nat}{rec:Mk->Mk}(h:Fits L A rec)(hL:151≤L)(k:Nat){s:Mk}(hs:s.code.length<150):Fit (L+2) A s (FA rec k s):=by
  unfold FA
  split
  · exact(Fit.put Ae (L:=L+2) Aq).mono (Nat.le_refl _) Ab
  · rename_i hk
    have hk:s.locked.getD k false=false:=by simpa using hk
    obtain⟨a1,a2,a3,a4,a5,a6⟩:=h ((s.put [(2,k),(12,0)]).lock k true) BA;refine⟨?_,?_,?_,?_,?_,?_⟩
    · rw [Dw];simp only [Mk.lock,List.length_cons,List.length_nil] at a1 ⊢;omega
    · exact a2
    · exact a3
    · show(rec _).locked.set k false=s.locked;rw [a4];exact RE hk
    · intro q;exact GV (s:=(rec ((s.put [(2,(k:Int)),(12,0)]).lock k true)).lock k false) rfl (a5 (GV (s:=s) (l:= [(2,(k:Int)),(12,0)]) rfl q))
    · rw [Dw];have:(s.put [(2,(k:Int)),(12,0)]).code.length≤(rec ((s.put [(2,k),(12,0)]).lock k true)).code.length:=a6;rw [Dw] at this
      simp only [Mk.lock,List.length_cons,List.length_nil] at this ⊢;omega
theorem Xl{L A:Nat}{rec:Mk->Mk}(h:Fits L A rec)(hL:151≤L){s:Mk}(hs:s.code.length<150):Fit (L+2) A s (Jj rec s):=by
  unfold Jj;obtain⟨a1,a2,a3,a4,a5,a6⟩:=h (s.put [(2,2),(7,0)]) Ax;dsimp only
  generalize hr:rec (s.put [(2,2),(7,0)])=r at*
  rw [Dw] at a6
  refine⟨?_,a2,a3,a4,fun q=> ?_,?_⟩
  · rw [Dw];simp only [Mk.to,FJ,List.length_cons,List.length_nil];omega
  · exact GV As (RF (a5 (GV As q)))
  · rw [Dw];simp only [Mk.to,FJ,List.length_cons,List.length_nil] at a6 ⊢;omega
theorem Yb{L A:Nat}{b:List Nat}{rec:Mk->Mk}(h:Fits L A rec)(hL:153≤L){s:Mk}(hs:s.code.length<150):Fit (L+7) (A+1) s (HZ b rec s):=by
  unfold HZ
  split
  · exact(Fit.put Ae (L:=L+7) Aq).mono (Nat.le_refl _) Ab
  · dsimp only
    generalize JZ:(({s with loops:=s.loops+1}:Mk).nx).put [(0,1+((CK b s.at_%2:Nat):Int)),(3,5+(s.loops:Int))]=s1
    have Zo:s1.code.length=s.code.length+2:=by subst JZ;rw [Dw];rfl
    have hat1:s1.at_=s.at_+1:=by subst JZ;rfl
    have hlo1:s1.loops=s.loops+1:=by subst JZ;rfl
    have hlk1:s1.locked=s.locked:=by subst JZ;rfl
    have iD:(∀y∈s.code,0≤y.op/\y.op≤20)->∀y∈s1.code,0≤y.op/\y.op≤20:=by
      intro q;subst JZ;exact GV As q
    obtain⟨a1,a2,a3,a4,a5,a6⟩:=h (s1.put [(2,5+(s.loops:Int)),(7,0)]) Ax
    generalize hr:rec (s1.put [(2,5+(s.loops:Int)),(7,0)])=r at*
    rw [Dw] at a6
    have a2:r.at_≤s1.at_+A:=a2;have a3:r.loops=s1.loops:=a3;have a4:r.locked=s1.locked:=a4;refine⟨?_,?_,?_,?_,fun q=> ?_,?_⟩
    · show((Mk.put _ _).code).length≤_;rw [Dw];simp only [Mk.to,FJ,Dw,List.length_cons,List.length_nil];omega
    · show r.at_≤_;omega
    · show r.loops - 1=s.loops;omega
    · show r.locked=s.locked;rw [a4,hlk1]
    · exact GV As (RF (GV As (a5 (GV As (iD q)))))
    · show _≤((Mk.put _ _).code).length;rw [Dw];simp only [Mk.to,FJ,Dw,List.length_cons,List.length_nil] at a6 ⊢;omega
theorem W0{own:Nat}{op:Int}(ho:0≤op/\op≤20){s:Mk}(hs:s.code.length<150):Fit 155 0 s (FT own op s):=by
  unfold FT
  split
  · exact Fit.put As Aq
  · have h1:Fit 151 0 s (s.put [(2,0),(2,1)]):=Fit.put As Aq;have Jf:dN [(op,((own+1:Nat):Int)),(3,2)]=true:=by simp [dN,ho]
    split
    · have l1:=h1.len;have h2:Fit 152 0 (s.put [(2,0),(2,1)]) ((s.put [(2,0),(2,1)]).put [(2,2)]):=Fit.put As AM;have l2:=h2.len;have h3:Fit 153 0 _ (((s.put [(2,0),(2,1)]).put [(2,2)]).put [(2,2)]):=Fit.put As AM;have l3:=h3.len;exact((h1.trans h2).trans h3).trans (Fit.put Jf AM)
    · have l1:=h1.len;exact h1.trans (Fit.put Jf AM)
theorem VO(n k:Nat):dN (Fb n k)=true/\(Fb n k).length≤3:=by
  unfold Fb
  split <;>exact⟨rfl,by simp⟩
theorem VN{n:Nat}{s:Mk}(hs:s.code.length<150):Fit 155 0 s (FG n s):=by
  unfold FG
  split
  · exact⟨by omega,Nat.le_refl _,rfl,rfl,id,Nat.le_refl _⟩
  · rename_i k _
    obtain⟨h1,h2⟩:=VO n k;exact Fit.put h1 Ab
theorem Ov{n:Nat}{s:Mk}(hs:s.code.length<150):Fit 155 0 s (DA n s):=by
  unfold DA
  split
  · exact Fit.put rfl Aq
  · exact Fit.put rfl Aq
  · exact Fit.put rfl Aq
  · exact Fit.put rfl Aq
  · refine⟨?_,Nat.le_refl _,rfl,rfl,fun q y hy=> ?_,?_⟩
    · simp [CJ];omega
    · simp only [List.mem_append,List.mem_singleton] at hy
      rcases hy with (hy|hy)|rfl
      · exact q y hy
      · exact PY As y hy
      · decide
    · simp [CJ]
theorem ND{L A:Nat}{b:List Nat}{own:Nat}{rec:Mk->Mk}(low:Bool)(h:low=false->Fits L A rec)(hL:153≤L){s:Mk}(hs:s.code.length<150):Fit (L+7) (A+2) s (Iq b own rec low s):=by
  have hn:Fit s.code.length 1 s s.nx:=Fit.nx s;have JZ:s.nx.code.length<150:=hs;have WJ:low=true->(if low=true then CK b s.at_%6 else CK b s.at_)%12<6:=by intro q;rw [if_pos q];omega
  have hh:¬(if low=true then CK b s.at_%6 else CK b s.at_)%12<6->Fits L A rec:=by
    intro q;apply h;cases low with|false=>rfl|true=>exact absurd (WJ rfl) q
  unfold Iq;dsimp only
  generalize (if low=true then CK b s.at_%6 else CK b s.at_)=n at*
  split
  · have Rq:Fit s.code.length 1 s.nx s.nx.nx:=Fit.nx s.nx;exact((hn.trans Rq).trans (Fit.put rfl (L:=L+7) (by simp;have:=Rq.len;omega))).mono (Nat.le_refl _) Ab
  · exact(hn.trans (Fit.put rfl (L:=L+7) Aq)).mono (Nat.le_refl _) Ab
  · exact(hn.trans (Fit.put rfl (L:=L+7) Aq)).mono (Nat.le_refl _) Ab
  · have Rq:Fit s.code.length 1 s.nx s.nx.nx:=Fit.nx s.nx;exact((hn.trans Rq).trans (Ov hs)).mono Ab Ab
  · have Rq:Fit s.code.length 1 s.nx s.nx.nx:=Fit.nx s.nx;exact((hn.trans Rq).trans (Ov hs)).mono Ab Ab
  · have Rq:Fit s.code.length 1 s.nx s.nx.nx:=Fit.nx s.nx;exact((hn.trans Rq).trans (VN hs)).mono Ab Ab
  · exact(hn.trans (N8 (hh Ab) Ab _ JZ)).mono Ab Ab
  · exact(hn.trans (N8 (hh Ab) Ab _ JZ)).mono Ab Ab
  · exact(hn.trans (N8 (hh Ab) Ab _ JZ)).mono Ab Ab
  · exact(hn.trans (Xl (hh Ab) Ab JZ)).mono Ab Ab
  · exact(hn.trans (Yb (hh Ab) Ab JZ)).mono Ab Ab
  · exact(hn.trans (W0 Ab JZ)).mono Ab Ab
theorem Qt{L A:Nat}{f:Mk->Mk}(h:∀s:Mk,s.code.length<150->Fit L A s (f s))(hL:153≤L):∀(i:Nat) (s:Mk),s.code.length≤L->Fit L (i*A) s (NL f i s)
  |0,s,hs=>⟨hs,by show s.at_≤_;omega,rfl,rfl,id,Nat.le_refl _⟩
  | i +1,s,hs=>by
    unfold NL
    split
    · rename_i hc
      have h1:=h s hc;exact(h1.trans (Qt h hL i (f s) h1.len)).mono (Nat.le_refl _) (by rw [Nat.succ_mul];omega)
    · exact⟨hs,by omega,rfl,rfl,id,Nat.le_refl _⟩
def Lu:Nat->Nat
  |0=>7
  |d+1=>1+3*(Lu d+2)
theorem GQ(b:List Nat)(own:Nat):∀d:Nat,Fits (160+7*d) (Lu d) (F9 b own d)
  | 0,s,hs=>by
    unfold F9;have h1:=Qt (L:=160) (A:=2) (f:=Iq b own id true) (fun s hs=>(ND (L:=153) (A:=0) (own:=own) true (fun h=>by cases h) Ab hs)) Ab (CK b s.at_%3+1) s.nx (by show s.code.length≤_;omega);refine((Fit.nx s).trans h1).mono Ab ?_;have:(CK b s.at_%3+1)≤3:=by omega
    have:=Nat.mul_le_mul_right 2 this;simp only [Lu];omega
  | d+1,s,hs=>by
    unfold F9;have h1:=Qt (L:=160+7*d+7) (A:=Lu d+2) (f:=Iq b own (F9 b own d) false) (fun s hs=>(ND (own:=own) false (fun _=>GQ b own d) Ab hs)) Ab (CK b s.at_%3+1) s.nx (by show s.code.length≤_;omega);refine((Fit.nx s).trans h1).mono Ab ?_;have:(CK b s.at_%3+1)≤3:=by omega
    have:=Nat.mul_le_mul_right (Lu d+2) this;simp only [Lu];omega
theorem I3(own:Nat):(E6 own).code.length≤10/\(∀y∈(E6 own).code,0≤y.op/\y.op≤20)/\(E6 own).at_=0/\(E6 own).loops=0/\(E6 own).locked=List.replicate 5 false:=by
  rcases own with _|_|own
  · exact⟨by decide,by decide,rfl,rfl,rfl⟩
  · exact⟨by decide,by decide,rfl,rfl,rfl⟩
  · have:E6 (own+2)=E6 2:=by simp [E6,show ¬own+2<2 by omega]
    rw [this];exact⟨by decide,by decide,rfl,rfl,rfl⟩
theorem GX(b:List Nat)(own:Nat):(DP b own).length≤200/\4≤(DP b own).length/\∀y∈DP b own,0≤y.op/\y.op≤20:=by
  obtain⟨h1,h2,_⟩:=I3 own;have hf:=GQ b own 3 (E6 own) Ab;have hl:2≤(E6 own).code.length:=by
    rcases own with _|_|own
    · decide
    · decide
    · have:E6 (own+2)=E6 2:=by simp [E6,show ¬own+2<2 by omega]
      rw [this];decide
  have:=hf.len;have:=hf.le;unfold DP;refine⟨?_,?_,GV As (hf.ops h2)⟩ <;>(rw [Dw];simp only [List.length_cons,List.length_nil];omega)
end Go.Proofs.YtcnmnmjmpocepaaGreatDoor
