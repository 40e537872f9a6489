
import Derived.Test.YtcnmnmjmpocepaaGreatDoorU00
import Derived.Test.YtcnmnmjmpocepaaGreatDoorU11
import Derived.Test.YtcnmnmjmpocepaaGreatDoorU29
set_option linter.unusedVariables false
set_option linter.unusedSimpArgs false
set_option linter.unusedSectionVars false
set_option maxRecDepth 100000
set_option maxHeartbeats 16000000
namespace Go.Proofs.YtcnmnmjmpocepaaGreatDoor
open Kd
def JB:List Int->List Int->Bool
  | [],[]=>true
  |x::xs,y::ys=>decide (LI x y) && JB xs ys
  |_,_=>false
theorem Mr:∀ {xs ys:List Int},JB xs ys=true↔H6 xs ys
  | [],[]=>by simp [JB,H6]
  | x ::xs,y::ys=>by
    rw [JB,Bool.and_eq_true,Mr,decide_eq_true_iff];unfold H6;constructor
    · rintro⟨h1,h2,h3⟩;refine⟨by simp [h2],fun i a b ha hb=> ?_⟩;cases i with
      |zero=>simp at ha hb;subst ha hb;exact h1
      |succ i=>exact h3 i a b (by simpa using ha) (by simpa using hb)
    · rintro⟨h2,h3⟩;exact⟨h3 0 x y rfl rfl,by simpa using h2,fun i a b ha hb=>h3 (i+1) a b (by simpa using ha) (by simpa using hb)⟩
  | [],y::ys=>by simp [JB,H6]
  |x::xs,[]=>by simp [JB,H6]
def PA (im:Im)(mi at_:Int)(loc CX:List Int):Int ⊕ (List Int×List Int):=
  if FF im.ms mi then match im.ms[mi.toNat]? with
  |none=> .inl 8
  | some m=>if FF m.code at_ then match m.code[at_.toNat]? with
    |none=> .inl 8
    | some y=>match rowOf im m loc y.op y.a y.b with
      |none=> .inl 8
      | some r=>if r.is=false then .inl 8
        else if CX.length<r.take.length∨¬JB (CX.drop (CX.length - r.take.length)) r.take=true∨ -1∈r.put then .inl 9
        else if m.st<((CX.length - r.take.length+r.put.length:Nat):Int) then .inl 9
        else .inr (if y.op=3 then loc.set y.a.toNat (CX.getD (CX.length - r.take.length) 0) else loc,CX.take (CX.length - r.take.length)++r.put)
    else .inl 8
  else .inl 8
theorem M9 (im:Im)(mi at_:Int)(loc CX:List Int):Dv im mi at_ loc CX=PA im mi at_ loc CX:=by
  unfold Dv PA;by_cases h1:FF im.ms mi=true
  · rw [if_pos h1,if_pos h1];cases im.ms[mi.toNat]? with
    |none=>rfl
    | some m=>
      dsimp only;by_cases h2:FF m.code at_=true
      · rw [if_pos h2,if_pos h2];cases m.code[at_.toNat]? with
        |none=>rfl
        | some y=>
          dsimp only;cases rowOf im m loc y.op y.a y.b with
          |none=>rfl
          | some r=>
            dsimp only;by_cases h3:r.is=false
            · rw [if_pos h3,if_pos h3]
            · rw [if_neg h3,if_neg h3];by_cases h4:CX.length<r.take.length∨¬H6 (CX.drop (CX.length - r.take.length)) r.take∨ -1∈r.put
              · have h4':CX.length<r.take.length∨¬JB (CX.drop (CX.length - r.take.length)) r.take=true∨ -1∈r.put:=by rw [Mr];exact h4
                rw [if_pos h4,if_pos h4']
              · have h4':¬(CX.length<r.take.length∨¬JB (CX.drop (CX.length - r.take.length)) r.take=true∨ -1∈r.put):=by rw [Mr];exact h4
                rw [if_neg h4,if_neg h4']
      · rw [if_neg h2,if_neg h2]
  · rw [if_neg h1,if_neg h1]
def QB(im:Im)(mi:Int)(nx:Nat->List Nat)(σ:Fs)(at_:Nat)(b:Bool):Except Er (Fs×Bool):=
  match σ[at_]? with
  | some (some g)=>match PA im mi at_ g.1 g.2 with
    | .inl c=> .error (c,at_)
    | .inr f=>Gb σ f (nx at_) b
  |_=> .ok (σ,b)
theorem XU(im:Im)(mi:Int)(nx:Nat->List Nat)(σ:Fs)(at_:Nat)(b:Bool):Fw im mi nx σ at_ b=QB im mi nx σ at_ b:=by
  unfold Fw QB;simp only [M9]
  rfl
def Qv(im:Im)(mi:Int)(nx:Nat->List Nat):Fs->List Nat->Bool->Except Er (Fs×Bool)
  |σ,[],b=> .ok (σ,b)
  | σ,a::l,b=>match QB im mi nx σ a b with
    | .error e=> .error e
    | .ok (Dj,b')=>Qv im mi nx Dj l b'
theorem Lk(im:Im)(mi:Int)(nx:Nat->List Nat):∀(l:List Nat) (σ:Fs) (b:Bool),D1 im mi nx σ l b=Qv im mi nx σ l b
  | [],_,_=>rfl
  | a::l,σ,b=>by
    unfold D1 Qv;rw [XU];cases QB im mi nx σ a b with
    |error e=>rfl
    |ok p=>exact Lk im mi nx l p.1 p.2
def runs(im:Im)(mi:Int)(nx:Nat->List Nat)(n:Nat):Nat->Fs->Option (Except Er Fs)
  |0,_=>none
  | k+1,σ=>match Qv im mi nx σ (List.range n) false with
    | .error e=>some (.error e)
    | .ok (Dj,false)=>some (.ok Dj)
    | .ok (Dj,true)=>runs im mi nx n k Dj
theorem ME{im:Im}{mi:Int}{nx:Nat->List Nat}{n:Nat}{r:Except Er Fs}:∀ {k:Nat} {σ:Fs},runs im mi nx n k σ=some r->Ew im mi nx n σ r
  |0,σ,h=>by cases h
  | k +1,σ,h=>by
    unfold runs at h
    split at h
    · rename_i e he
      cases h
      exact .bad (by rw [Lk];exact he)
    · rename_i Dj he
      cases h
      exact .done (by rw [Lk];exact he)
    · rename_i Dj he
      exact .more (by rw [Lk];exact he) (ME h)
def QV(x:Int):List Int->List Int
  | []=> [x]
  |y::l=>if x<y then x::y::l else if x=y then y::l else y::QV x l
def PD(xs:List Int):List Int:=xs.foldr QV []
theorem Od(x z:Int):∀l:List Int,z∈QV x l↔z=x∨z∈l
  | []=>by simp [QV]
  | y ::l=>by
    unfold QV
    split
    · simp
    · split
      · rename_i h;subst h;simp
      · simp [Od x z l];constructor
        · rintro(h|h|h) <;>simp [h]
        · rintro(h|h|h) <;>simp [h]
theorem PZ(x:Int):∀ {l:List Int},l.Pairwise (· < ·)->(QV x l).Pairwise (· < ·)
  | [],_=>by simp [QV]
  | y ::l,h=>by
    obtain⟨h1,h2⟩:=List.pairwise_cons.1 h;unfold QV
    split
    · rename_i hx
      refine List.pairwise_cons.2 ⟨fun z hz=> ?_,h⟩;rcases List.mem_cons.1 hz with rfl|hz
      · exact hx
      · have:=h1 z hz;omega
    · split
      · exact h
      · refine List.pairwise_cons.2 ⟨fun z hz=> ?_,PZ x h2⟩;rcases(Od x z l).1 hz with rfl|hz
        · omega
        · exact h1 z hz
theorem XP(xs:List Int):Nd.Jc xs=PD xs:=by
  have h:(PD xs).Pairwise (· < ·)/\∀z,z∈PD xs↔z∈xs:=by
    induction xs with
    |nil=>exact⟨List.Pairwise.nil,fun _=>Iff.rfl⟩
    | cons a l ih=>
      refine⟨PZ a ih.1,fun z=> ?_⟩;show z∈QV a (PD l)↔_;rw [Od,ih.2,List.mem_cons]
  exact Nd.ZM h.1 fun z=>(h.2 z).symm
def aV(x:Nd.Ins)(k:Nat):List Int:=PD ((if Nd.jmp x.1 then [x.2.1] else [])++(if x.1≠6/\x.1≠20 then [(k:Int)+1] else []))
def X7(cs:List Nd.Ins)(at_:Int):List Int:=if 0≤at_/\at_<cs.length then aV (cs.getD at_.toNat (0,0,0)) at_.toNat else []
theorem X6(cs:List Nd.Ins)(at_:Int):Nd.GG cs at_=X7 cs at_:=by
  unfold Nd.GG X7 Nd.G2 aV;rw [XP]
def dt(cs:List Nd.Ins)(k:Nat):Bool:=(X7 cs (k:Int)).any fun t=> !Nd.L1 cs.length t
def ZT(cs:List Nd.Ins):Int:=match(List.range cs.length).find? (dt cs) with
  |some k=>(k:Int)
  |none=>if cs.length=0 then 0 else -1
theorem eG(cs:List Nd.Ins):Nd.off cs=ZT cs:=by
  have e:Nd.bad cs=dt cs:=by funext k;unfold Nd.bad dt;rw [X6]
  unfold Nd.off ZT;rw [e]
  rfl
def cx(l:List Kd.Ins)(n:Nat)(at_:Nat):List Nat:=(X7 (FH l) (at_:Int)).filterMap fun t:Int=>if 0≤t/\t<n then some t.toNat else none
theorem eI(l:List Kd.Ins)(n:Nat):R6 l n=cx l n:=by
  funext a;unfold R6 cx;rw [X6]
def Yg(cs:List Nd.Ins):List Int:=(PD (Nd.Hg cs cs.length)).filter (Nd.L1 cs.length)
theorem cJ(cs:List Nd.Ins):Nd.leads cs=Yg cs:=by unfold Nd.leads Yg;rw [XP]
def aL(cs:List Nd.Ins)(z:Int):Option Int:=
  if 1≤z/\z<cs.length/\Nd.GD (cs.getD z.toNat (0,0,0)).1/\z∉Yg cs/\(cs.getD (z - 1).toNat (0,0,0)).1=2 then some (cs.getD (z - 1).toNat (0,0,0)).2.1 else none
theorem fH(cs:List Nd.Ins)(z:Int):Nd.KW cs z=aL cs z:=by unfold Nd.KW aL;rw [cJ]
def dr(cs:List Nd.Ins)(z:Nat)(s:List Int):Option (List Int):=
  let x:=cs.getD z (0,0,0)
  if Nd.GD x.1/\aL cs z=none then none
  else Nd.Qb x.1 (if x.1=3 then x.2.1 else(aL cs z).getD 0) s
theorem fG(cs:List Nd.Ins)(z:Nat)(s:List Int):Nd.Hd cs z s=dr cs z s:=by unfold Nd.Hd dr;simp only [fH]
def UB (cs:List Nd.Ins)(g:Nd.GS):Nd.GS:=
  if g.res.isSome then g else
  match g.V[g.i]? with
  |none=>{g with res:=some (-1)}
  | some z=>match dr cs z.toNat (g.CX z) with
    |none=>{g with res:=some z}
    | some s=>match(X7 cs z)[g.k]? with
      |none=>{g with i:=g.i+1,k:=0}
      | some t=>
        if 0≤t/\t<cs.length then
          if t∈g.V then if g.CX t=s then{g with k:=g.k+1} else{g with res:=some t}
          else{g with V:=g.V++ [t],CX:=fun q=>if q=t then s else g.CX q,k:=g.k+1}
        else{g with k:=g.k+1}
theorem ao(cs:List Nd.Ins)(g:Nd.GS):g.step cs=UB cs g:=by
  unfold Nd.GS.step UB;simp only [fG,X6]
  rfl
def Vt(cs:List Nd.Ins):Nat->Nd.GS
  |0=> .start
  |n+1=>UB cs (Vt cs n)
theorem YG(cs:List Nd.Ins):∀n,Nd.GS.run cs n=Vt cs n
  |0=>rfl
  |n+1=>by rw [Nd.GS.run,Vt,ao,YG cs n]
def Vw(k:Nat)(im:Im)(mi:Int)(m:Me):Option (Except Er Fs):=runs im mi (cx m.code m.code.length) m.code.length k (F7 m m.code.length)
theorem KS{k:Nat}{im:Im}{mi:Int}{m:Me}{r:Except Er Fs}(h0:0<m.code.length)(h:Vw k im mi m=some r):Ge im mi m=r:=
  (FO im mi m h0).iX (by rw [eI];exact ME h)
def X8(k:Nat)(im:Im)(mi:Int)(m:Me):Option (Option Er):=
  if 0≤ZT (FH m.code) then some (some (8,ZT (FH m.code)))
  else match Vw k im mi m with
  |none=>none
  |some (.error e)=>some (some e)
  | some (.ok _)=>match(Vt (FH m.code) k).res with
    |none=>none
    |some w=>some (if 0≤w then some (10,w) else none)
theorem Sd{k:Nat}{im:Im}{mi:Int}{m:Me}{r:Option Er}(h:X8 k im mi m=some r):Hf im mi m=r:=by
  unfold X8 at h
  rw [<-eG] at h
  unfold Hf
  split at h
  · rename_i ho
    cases h
    rw [if_pos ho]
  · rename_i ho
    have h0:0<m.code.length:=by have:=QI (cs:=FH m.code) Ab;rwa [Dk] at this
    rw [if_neg ho]
    split at h
    · cases h
    · rename_i e he
      cases h
      rw [KS h0 he]
    · rename_i σ he
      rw [KS h0 he];dsimp only
      split at h
      · cases h
      · rename_i w hw
        cases h
        rw [<-(Nd.TJ rfl (by rw [YG];exact hw)).2.1]
def Ra(k:Nat)(im:Im):Nat->List Me->Option (Option (Int×Int×Int))
  |_,[]=>some none
  | i,m::l=>match X8 k im (i:Int) m with
    |none=>none
    |some (some e)=>some (some (e.1,(i:Int),e.2))
    |some none=>Ra k im (i+1) l
theorem Qe{k:Nat}{im:Im}{r:Option (Int×Int×Int)}:∀ {l:List Me} {i:Nat},im.ms.drop i=l->(∀j,j<i->FM im j=none)->Ra k im i l=some r->DC im=r
  | [],i,hl,hb,h=>by
    cases h
    have hlen:im.ms.length≤i:=by simpa using hl
    exact Mw fun j hj=>hb j Ab
  | m ::l,i,hl,hb,h=>by
    have Em:i<im.ms.length:=by
      rcases Nat.lt_or_ge i im.ms.length with q|q
      · exact q
      · rw [List.drop_eq_nil_of_le q] at hl;cases hl
    have hm:im.ms[i]?=some m:=by
      have:(im.ms.drop i)[0]?=some m:=by rw [hl];rfl
      simpa using this
    have E5:FM im i=Hf im (i:Int) m:=by simp only [FM,hm]
    unfold Ra at h
    split at h
    · cases h
    · rename_i e he
      cases h
      exact J6 Em hb (by rw [E5,Sd he])
    · rename_i he
      refine Qe (l:=l) (i:=i+1) ?_ (fun j hj=> ?_) h
      · rw [<-List.drop_drop,hl];rfl
      · by_cases q:j=i
        · rw [q,E5,Sd he]
        · exact hb j Ab
theorem EA{k:Nat}{im:Im}{r:Option (Int×Int×Int)}(h:Ra k im 0 im.ms=some r):DC im=r:=Qe (i:=0) rfl (fun j hj=>absurd hj (Nat.not_lt_zero _)) h
def Ec(l:List Ins):Im:=⟨[[]],[⟨[],2,2,l⟩]⟩
def Ez(op a:Int):Ins:=⟨op,a,0⟩
theorem eu:DC (Ec [Ez 0 1,Ez 20 0])=none:=EA (k:=20) (by decide +kernel)
theorem kE:DC (Ec [Ez 0 1])=some (8,0,0):=EA (k:=20) (by decide +kernel)
theorem kD:DC (Ec [Ez 2 0,Ez 20 0])=some (9,0,0):=EA (k:=20) (by decide +kernel)
theorem kC:DC (Ec [Ez 0 1,Ez 7 3,Ez 0 2,Ez 0 0,Ez 20 0])=some (9,0,3):=EA (k:=20) (by decide +kernel)
theorem kA:DC (Ec [Ez 9 0,Ez 3 0,Ez 2 0,Ez 12 0,Ez 0 0,Ez 20 0])=some (10,0,5):=EA (k:=40) (by decide +kernel)
end Go.Proofs.YtcnmnmjmpocepaaGreatDoor
