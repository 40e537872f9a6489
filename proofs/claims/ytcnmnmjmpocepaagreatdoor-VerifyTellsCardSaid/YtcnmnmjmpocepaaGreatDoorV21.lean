
import Derived.Test.YtcnmnmjmpocepaaGreatDoorV00
import Derived.Test.YtcnmnmjmpocepaaGreatDoorV09
import Derived.Test.YtcnmnmjmpocepaaGreatDoorV16
set_option linter.unusedVariables false
set_option linter.unusedSimpArgs false
set_option linter.unusedSectionVars false
set_option maxRecDepth 100000
set_option maxHeartbeats 16000000
namespace Go.Proofs.YtcnmnmjmpocepaaGreatDoor
open Kd
structure Mk where
  at_:Nat
  code:List Ins
  locked:List Bool
  loops:Nat
def Dj(b:List Nat)(i:Nat):Nat:=b.getD i 0
def Mk.nx(s:Mk):Mk:={s with at_:=s.at_+1}
def Is(l:List (Int×Int)):List Ins:=l.map fun p=>⟨p.1,p.2,0⟩
def Mk.put(s:Mk)(l:List (Int×Int)):Mk:={s with code:=s.code++Is l}
def Mk.lock(s:Mk)(k:Nat)(b:Bool):Mk:={s with locked:=s.locked.set k b}
def M1(l:List Ins)(i:Nat)(a:Int):List Ins:=match l[i]? with|none=>l|some y=>l.set i ⟨y.op,a,y.b⟩
theorem GA(l:List Ins)(i:Nat)(a:Int):(M1 l i a).length=l.length:=by
  unfold M1;split <;>simp
def Mk.to(s:Mk)(i:Nat)(a:Int):Mk:={s with code:=M1 s.code i a}
def Gv(rec:Mk->Mk)(k:Nat)(s:Mk):Mk:=
  if s.locked.getD k false then s.put [(2,2),(19,0)]
  else((rec ((s.put [(2,k),(12,0)]).lock k true)).lock k false).put [(2,k),(13,0)]
def LZ(rec:Mk->Mk)(s:Mk):Mk:=
  let s1:=rec (s.put [(2,2),(7,0)])
  (s1.to (s.code.length+1) s1.code.length).put [(2,2),(3,2)]
def Jr(b:List Nat)(rec:Mk->Mk)(s:Mk):Mk:=
  if s.loops=3 then s.put [(0,7),(3,2)]
  else
    let k:Int:=5+s.loops
    let s1:=({s with loops:=s.loops+1}.nx).put [(0,1+(Dj b s.at_%2:Nat)),(3,k)]
    let s2:=rec (s1.put [(2,k),(7,0)])
    let s3:=s2.put [(2,k),(0,1),(5,0),(3,k),(6,s1.code.length)]
    let s4:=(s3.to (s1.code.length+1) s3.code.length).put [(0,0),(3,k)]
    {s4 with loops:=s4.loops - 1}
def G6(own:Nat)(op:Int)(s:Mk):Mk:=
  if own=2 then s.put [(0,5),(3,3)]
  else
    let s1:=s.put [(2,0),(2,1)]
    let s2:=if own+1=2 then(s1.put [(2,2)]).put [(2,2)] else s1
    s2.put [(op,own+1),(3,2)]
def G0(n k:Nat):List (Int×Int):=match n%5 with
  |0=> [(2,k),(14,0),(3,3)]
  |1|2=> [(2,k),(15,0)]
  |_=> [(2,k),(16,0)]
def Gz(n:Nat)(s:Mk):Mk:=match s.locked.findIdx? id with
  |none=>s
  |some k=>s.put (G0 n k)
def Ea(n:Nat)(s:Mk):Mk:=match n%5 with
  |0|1=>s.put [(2,0),(10,(n%2:Nat)),(3,2)]
  |2|3=>s.put [(2,0),(2,3),(11,(n%2:Nat))]
  |_=>{s with code:=s.code++Is [(2,1),(2,0)]++ [⟨11,1,1⟩]}
def JS(b:List Nat)(own:Nat)(rec:Mk->Mk)(low:Bool)(s:Mk):Mk:=
  let n0:=Dj b s.at_
  let s:=s.nx
  let n:=if low then n0%6 else n0
  match n%12 with
  |0=>s.nx.put [(0,(Dj b s.at_%5:Nat)),(3,2)]
  |1=>s.put [(2,2),(2,3),(4,0),(3,3)]
  |2=>s.put [(2,3),(19,0)]
  |3|4=>Ea (Dj b s.at_) s.nx
  |5=>Gz (Dj b s.at_) s.nx
  |6=>Gv rec 0 s
  |7=>Gv rec 1 s
  |8=>Gv rec 4 s
  |9=>LZ rec s
  |10=>Jr b rec s
  |_=>G6 own (17+(n/12%2:Nat)) s
def PT(f:Mk->Mk):Nat->Mk->Mk
  |0,s=>s
  |i+1,s=>if s.code.length<150 then PT f i (f s) else s
def GK(b:List Nat)(own:Nat):Nat->Mk->Mk
  |0,s=>PT (JS b own id true) (Dj b s.at_%3+1) s.nx
  |d+1,s=>PT (JS b own (GK b own d) false) (Dj b s.at_%3+1) s.nx
def Hl(own:Nat):Mk:=
  let s0:Mk:=⟨0,[],List.replicate 5 false,0⟩
  let s1:=match own with
    |0=>s0.put [(9,0),(3,0),(9,1),(3,1),(0,1),(3,2)]
    |1=>s0.put [(0,2),(3,2)]
    |_=>s0
  let s2:=if own<2 then s1.put [(0,3),(3,3)] else s1
  s2.put [(2,0),(3,4)]
def Mr:Nat->List Int
  |0=> []
  |1=> [1,2]
  |_=> [1,2,0,0]
def FK(b:List Nat)(own:Nat):List Ins:=((GK b own 3 (Hl own)).put [(2,2),(20,0)]).code
def DX(B:List Nat)(own:Nat):List Nat:=
  let b:=B.take 120
  ((b.drop (own*(b.length/3))).take (b.length/3))
structure Fit(L A:Nat)(s s':Mk):Prop where
  len:s'.code.length≤L
  at_:s'.at_≤s.at_+A
  loops:s'.loops=s.loops
  lk:s'.locked=s.locked
  ops:(∀y∈s.code,0≤y.op/\y.op≤20)->∀y∈s'.code,0≤y.op/\y.op≤20
  le:s.code.length≤s'.code.length
theorem DV(s:Mk)(l:List (Int×Int)):(s.put l).code.length=s.code.length+l.length:=by simp [Mk.put,Is]
def kI(l:List (Int×Int)):Bool:=l.all fun p=>decide (0≤p.1) && decide (p.1≤20)
theorem Sm{l:List (Int×Int)}(h:kI l=true):∀y∈Is l,0≤y.op/\y.op≤20:=by
  intro y hy;simp only [Is,List.mem_map] at hy
  obtain⟨p,hp,rfl⟩:=hy;have:=List.all_eq_true.1 h p hp;simpa using this
theorem Ib{s:Mk}{l:List (Int×Int)}(h:kI l=true)(hs:∀y∈s.code,0≤y.op/\y.op≤20):∀y∈(s.put l).code,0≤y.op/\y.op≤20:=by
  intro y hy;simp only [Mk.put,List.mem_append] at hy
  rcases hy with q|q
  · exact hs y q
  · exact Sm h y q
theorem UI{l:List Ins}{i:Nat}{a:Int}(hs:∀y∈l,0≤y.op/\y.op≤20):∀y∈M1 l i a,0≤y.op/\y.op≤20:=by
  unfold M1
  split
  · exact hs
  · rename_i y0 e
    intro y hy;rcases List.mem_or_eq_of_mem_set hy with q|q
    · exact hs y q
    · subst q;exact hs y0 (List.mem_of_getElem? e)
theorem Fit.put{s:Mk}{l:List (Int×Int)}(h:kI l=true){L:Nat}(hL:s.code.length+l.length≤L):Fit L 0 s (s.put l):=
  ⟨by rw [DV];exact hL,Nat.le_refl _,rfl,rfl,Ib h,by rw [DV];omega⟩
theorem Fit.nx(s:Mk):Fit s.code.length 1 s s.nx:=⟨Nat.le_refl _,Nat.le_refl _,rfl,rfl,id,Nat.le_refl _⟩
theorem Fit.trans{L A L' A':Nat}{s t u:Mk}(h:Fit L A s t)(h':Fit L' A' t u):Fit L' (A+A') s u:=
  ⟨h'.len,by have:=h.at_;have:=h'.at_;omega,h'.loops.trans h.loops,h'.lk.trans h.lk,fun q=>h'.ops (h.ops q),Nat.le_trans h.le h'.le⟩
theorem Fit.mono{L A L' A':Nat}{s t:Mk}(h:Fit L A s t)(h1:L≤L')(h2:A≤A'):Fit L' A' s t:=
  ⟨Nat.le_trans h.len h1,by have:=h.at_;omega,h.loops,h.lk,h.ops,h.le⟩
def Fits(L A:Nat)(f:Mk->Mk):Prop:=∀s:Mk,s.code.length≤153->Fit L A s (f s)
theorem bh{l:List Bool}{k:Nat}(h:l.getD k false=false):(l.set k true).set k false=l:=by
  rw [List.set_set];apply List.ext_getElem?;intro i;by_cases e:i=k
  · subst e;rw [List.getElem?_set_self'];cases hq:l[i]? with
    |none=>rfl
    |some b=>simp [List.getD,hq] at h;subst h;rfl
  · rw [List.getElem?_set_ne Ab]
theorem Qj{L A:Nat}{rec:Mk->Mk}(h:Fits L A rec)(hL:151≤L)(k:Nat){s:Mk}(hs:s.code.length<150):Fit (L+2) A s (Gv rec k s):=by
  unfold Gv
  split
  · exact(Fit.put Ah (L:=L+2) As).mono (Nat.le_refl _) Ab
  · rename_i hk
    have hk:s.locked.getD k false=false:=by simpa using hk
    obtain⟨a1,a2,a3,a4,a5,a6⟩:=h ((s.put [(2,k),(12,0)]).lock k true) BJ;refine⟨?_,?_,?_,?_,?_,?_⟩
    · rw [DV];simp only [Mk.lock,List.length_cons,List.length_nil] at a1 ⊢;omega
    · exact a2
    · exact a3
    · show(rec _).locked.set k false=s.locked;rw [a4];exact bh hk
    · intro q;exact Ib (s:=(rec ((s.put [(2,(k:Int)),(12,0)]).lock k true)).lock k false) rfl (a5 (Ib (s:=s) (l:= [(2,(k:Int)),(12,0)]) rfl q))
    · rw [DV];have:(s.put [(2,(k:Int)),(12,0)]).code.length≤(rec ((s.put [(2,k),(12,0)]).lock k true)).code.length:=a6;rw [DV] at this
      simp only [Mk.lock,List.length_cons,List.length_nil] at this ⊢;omega
theorem aF{L A:Nat}{rec:Mk->Mk}(h:Fits L A rec)(hL:151≤L){s:Mk}(hs:s.code.length<150):Fit (L+2) A s (LZ rec s):=by
  unfold LZ;obtain⟨a1,a2,a3,a4,a5,a6⟩:=h (s.put [(2,2),(7,0)]) AJ;dsimp only
  generalize hr:rec (s.put [(2,2),(7,0)])=r at*
  rw [DV] at a6
  refine⟨?_,a2,a3,a4,fun q=> ?_,?_⟩
  · rw [DV];simp only [Mk.to,GA,List.length_cons,List.length_nil];omega
  · exact Ib Av (UI (a5 (Ib Av q)))
  · rw [DV];simp only [Mk.to,GA,List.length_cons,List.length_nil] at a6 ⊢;omega
theorem cm{L A:Nat}{b:List Nat}{rec:Mk->Mk}(h:Fits L A rec)(hL:153≤L){s:Mk}(hs:s.code.length<150):Fit (L+7) (A+1) s (Jr b rec s):=by
  unfold Jr
  split
  · exact(Fit.put Ah (L:=L+7) As).mono (Nat.le_refl _) Ab
  · dsimp only
    generalize Kp:(({s with loops:=s.loops+1}:Mk).nx).put [(0,1+((Dj b s.at_%2:Nat):Int)),(3,5+(s.loops:Int))]=s1
    have VD:s1.code.length=s.code.length+2:=by subst Kp;rw [DV];rfl
    have hat1:s1.at_=s.at_+1:=by subst Kp;rfl
    have oi:s1.loops=s.loops+1:=by subst Kp;rfl
    have hlk1:s1.locked=s.locked:=by subst Kp;rfl
    have kL:(∀y∈s.code,0≤y.op/\y.op≤20)->∀y∈s1.code,0≤y.op/\y.op≤20:=by
      intro q;subst Kp;exact Ib Av q
    obtain⟨a1,a2,a3,a4,a5,a6⟩:=h (s1.put [(2,5+(s.loops:Int)),(7,0)]) AJ
    generalize hr:rec (s1.put [(2,5+(s.loops:Int)),(7,0)])=r at*
    rw [DV] at a6
    have a2:r.at_≤s1.at_+A:=a2;have a3:r.loops=s1.loops:=a3;have a4:r.locked=s1.locked:=a4;refine⟨?_,?_,?_,?_,fun q=> ?_,?_⟩
    · show((Mk.put _ _).code).length≤_;rw [DV];simp only [Mk.to,GA,DV,List.length_cons,List.length_nil];omega
    · show r.at_≤_;omega
    · show r.loops - 1=s.loops;omega
    · show r.locked=s.locked;rw [a4,hlk1]
    · exact Ib Av (UI (Ib Av (a5 (Ib Av (kL q)))))
    · show _≤((Mk.put _ _).code).length;rw [DV];simp only [Mk.to,GA,DV,List.length_cons,List.length_nil] at a6 ⊢;omega
theorem Z4{own:Nat}{op:Int}(ho:0≤op/\op≤20){s:Mk}(hs:s.code.length<150):Fit 155 0 s (G6 own op s):=by
  unfold G6
  split
  · exact Fit.put Av As
  · have h1:Fit 151 0 s (s.put [(2,0),(2,1)]):=Fit.put Av As;have Ht:kI [(op,((own+1:Nat):Int)),(3,2)]=true:=by simp [kI,ho]
    split
    · have l1:=h1.len;have h2:Fit 152 0 (s.put [(2,0),(2,1)]) ((s.put [(2,0),(2,1)]).put [(2,2)]):=Fit.put Av AT;have l2:=h2.len;have h3:Fit 153 0 _ (((s.put [(2,0),(2,1)]).put [(2,2)]).put [(2,2)]):=Fit.put Av AT;have l3:=h3.len;exact((h1.trans h2).trans h3).trans (Fit.put Ht AT)
    · have l1:=h1.len;exact h1.trans (Fit.put Ht AT)
theorem YY(n k:Nat):kI (G0 n k)=true/\(G0 n k).length≤3:=by
  unfold G0
  split <;>exact⟨rfl,by simp⟩
theorem YX{n:Nat}{s:Mk}(hs:s.code.length<150):Fit 155 0 s (Gz n s):=by
  unfold Gz
  split
  · exact⟨by omega,Nat.le_refl _,rfl,rfl,id,Nat.le_refl _⟩
  · rename_i k _
    obtain⟨h1,h2⟩:=YY n k;exact Fit.put h1 Ab
theorem QD{n:Nat}{s:Mk}(hs:s.code.length<150):Fit 155 0 s (Ea n s):=by
  unfold Ea
  split
  · exact Fit.put rfl As
  · exact Fit.put rfl As
  · exact Fit.put rfl As
  · exact Fit.put rfl As
  · refine⟨?_,Nat.le_refl _,rfl,rfl,fun q y hy=> ?_,?_⟩
    · simp [Is];omega
    · simp only [List.mem_append,List.mem_singleton] at hy
      rcases hy with (hy|hy)|rfl
      · exact q y hy
      · exact Sm Av y hy
      · decide
    · simp [Is]
theorem KU{L A:Nat}{b:List Nat}{own:Nat}{rec:Mk->Mk}(low:Bool)(h:low=false->Fits L A rec)(hL:153≤L){s:Mk}(hs:s.code.length<150):Fit (L+7) (A+2) s (JS b own rec low s):=by
  have hn:Fit s.code.length 1 s s.nx:=Fit.nx s;have Kp:s.nx.code.length<150:=hs;have ZM:low=true->(if low=true then Dj b s.at_%6 else Dj b s.at_)%12<6:=by intro q;rw [if_pos q];omega
  have hh:¬(if low=true then Dj b s.at_%6 else Dj b s.at_)%12<6->Fits L A rec:=by
    intro q;apply h;cases low with|false=>rfl|true=>exact absurd (ZM rfl) q
  unfold JS;dsimp only
  generalize (if low=true then Dj b s.at_%6 else Dj b s.at_)=n at*
  split
  · have Wu:Fit s.code.length 1 s.nx s.nx.nx:=Fit.nx s.nx;exact((hn.trans Wu).trans (Fit.put rfl (L:=L+7) (by simp;have:=Wu.len;omega))).mono (Nat.le_refl _) Ab
  · exact(hn.trans (Fit.put rfl (L:=L+7) As)).mono (Nat.le_refl _) Ab
  · exact(hn.trans (Fit.put rfl (L:=L+7) As)).mono (Nat.le_refl _) Ab
  · have Wu:Fit s.code.length 1 s.nx s.nx.nx:=Fit.nx s.nx;exact((hn.trans Wu).trans (QD hs)).mono Ab Ab
  · have Wu:Fit s.code.length 1 s.nx s.nx.nx:=Fit.nx s.nx;exact((hn.trans Wu).trans (QD hs)).mono Ab Ab
  · have Wu:Fit s.code.length 1 s.nx s.nx.nx:=Fit.nx s.nx;exact((hn.trans Wu).trans (YX hs)).mono Ab Ab
  · exact(hn.trans (Qj (hh Ab) Ab _ Kp)).mono Ab Ab
  · exact(hn.trans (Qj (hh Ab) Ab _ Kp)).mono Ab Ab
  · exact(hn.trans (Qj (hh Ab) Ab _ Kp)).mono Ab Ab
  · exact(hn.trans (aF (hh Ab) Ab Kp)).mono Ab Ab
  · exact(hn.trans (cm (hh Ab) Ab Kp)).mono Ab Ab
  · exact(hn.trans (Z4 Ab Kp)).mono Ab Ab
theorem Tr{L A:Nat}{f:Mk->Mk}(h:∀s:Mk,s.code.length<150->Fit L A s (f s))(hL:153≤L):∀(i:Nat) (s:Mk),s.code.length≤L->Fit L (i*A) s (PT f i s)
  |0,s,hs=>⟨hs,by show s.at_≤_;omega,rfl,rfl,id,Nat.le_refl _⟩
  | i +1,s,hs=>by
    unfold PT
    split
    · rename_i hc
      have h1:=h s hc;exact(h1.trans (Tr h hL i (f s) h1.len)).mono (Nat.le_refl _) (by rw [Nat.succ_mul];omega)
    · exact⟨hs,by omega,rfl,rfl,id,Nat.le_refl _⟩
def L3:Nat->Nat
  |0=>7
  |d+1=>1+3*(L3 d+2)
theorem GX(b:List Nat)(own:Nat):∀d:Nat,Fits (160+7*d) (L3 d) (GK b own d)
  | 0,s,hs=>by
    unfold GK;have h1:=Tr (L:=160) (A:=2) (f:=JS b own id true) (fun s hs=>(KU (L:=153) (A:=0) (own:=own) true (fun h=>by cases h) Ab hs)) Ab (Dj b s.at_%3+1) s.nx (by show s.code.length≤_;omega);refine((Fit.nx s).trans h1).mono Ab ?_;have:(Dj b s.at_%3+1)≤3:=by omega
    have:=Nat.mul_le_mul_right 2 this;simp only [L3];omega
  | d+1,s,hs=>by
    unfold GK;have h1:=Tr (L:=160+7*d+7) (A:=L3 d+2) (f:=JS b own (GK b own d) false) (fun s hs=>(KU (own:=own) false (fun _=>GX b own d) Ab hs)) Ab (Dj b s.at_%3+1) s.nx (by show s.code.length≤_;omega);refine((Fit.nx s).trans h1).mono Ab ?_;have:(Dj b s.at_%3+1)≤3:=by omega
    have:=Nat.mul_le_mul_right (L3 d+2) this;simp only [L3];omega
theorem Jz(own:Nat):(Hl own).code.length≤10/\(∀y∈(Hl own).code,0≤y.op/\y.op≤20)/\(Hl own).at_=0/\(Hl own).loops=0/\(Hl own).locked=List.replicate 5 false:=by
  rcases own with _|_|own
  · exact⟨by decide,by decide,rfl,rfl,rfl⟩
  · exact⟨by decide,by decide,rfl,rfl,rfl⟩
  · have:Hl (own+2)=Hl 2:=by simp [Hl,show ¬own+2<2 by omega]
    rw [this];exact⟨by decide,by decide,rfl,rfl,rfl⟩
theorem Ih(b:List Nat)(own:Nat):(FK b own).length≤200/\4≤(FK b own).length/\∀y∈FK b own,0≤y.op/\y.op≤20:=by
  obtain⟨h1,h2,_⟩:=Jz own;have hf:=GX b own 3 (Hl own) Ab;have hl:2≤(Hl own).code.length:=by
    rcases own with _|_|own
    · decide
    · decide
    · have:Hl (own+2)=Hl 2:=by simp [Hl,show ¬own+2<2 by omega]
      rw [this];decide
  have:=hf.len;have:=hf.le;unfold FK;refine⟨?_,?_,Ib Av (hf.ops h2)⟩ <;>(rw [DV];simp only [List.length_cons,List.length_nil];omega)
end Go.Proofs.YtcnmnmjmpocepaaGreatDoor
