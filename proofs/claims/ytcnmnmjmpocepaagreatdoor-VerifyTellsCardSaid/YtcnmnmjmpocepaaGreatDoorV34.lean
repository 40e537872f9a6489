
import Derived.Test.YtcnmnmjmpocepaaGreatDoorV00
import Derived.Test.YtcnmnmjmpocepaaGreatDoorV09
import Derived.Test.YtcnmnmjmpocepaaGreatDoorV29
set_option linter.unusedVariables false
set_option linter.unusedSimpArgs false
set_option linter.unusedSectionVars false
set_option maxRecDepth 100000
set_option maxHeartbeats 16000000
namespace Go.Proofs.YtcnmnmjmpocepaaGreatDoor
open Kd
def Nv:List Int->List Int->Bool
  | [],[]=>true
  |x::xs,y::ys=>decide (II x y) && Nv xs ys
  |_,_=>false
theorem On:∀ {xs ys:List Int},Nv xs ys=true↔Jv xs ys
  | [],[]=>by simp [Nv,Jv]
  | x ::xs,y::ys=>by
    rw [Nv,Bool.and_eq_true,On,decide_eq_true_iff];unfold Jv;constructor
    · rintro⟨h1,h2,h3⟩;refine⟨by simp [h2],fun i a b ha hb=> ?_⟩;cases i with
      |zero=>simp at ha hb;subst ha hb;exact h1
      |succ i=>exact h3 i a b (by simpa using ha) (by simpa using hb)
    · rintro⟨h2,h3⟩;exact⟨h3 0 x y rfl rfl,by simpa using h2,fun i a b ha hb=>h3 (i+1) a b (by simpa using ha) (by simpa using hb)⟩
  | [],y::ys=>by simp [Nv,Jv]
  |x::xs,[]=>by simp [Nv,Jv]
def aR (im:Im)(mi at_:Int)(loc Dl:List Int):Int ⊕ (List Int×List Int):=
  if EZ im.ms mi then match im.ms[mi.toNat]? with
  |none=> .inl 8
  | some m=>if EZ m.code at_ then match m.code[at_.toNat]? with
    |none=> .inl 8
    | some y=>match rowOf im m loc y.op y.a y.b with
      |none=> .inl 8
      | some r=>if r.is=false then .inl 8
        else if Dl.length<r.take.length∨¬Nv (Dl.drop (Dl.length - r.take.length)) r.take=true∨ -1∈r.put then .inl 9
        else if m.st<((Dl.length - r.take.length+r.put.length:Nat):Int) then .inl 9
        else .inr (if y.op=3 then loc.set y.a.toNat (Dl.getD (Dl.length - r.take.length) 0) else loc,Dl.take (Dl.length - r.take.length)++r.put)
    else .inl 8
  else .inl 8
theorem eR (im:Im)(mi at_:Int)(loc Dl:List Int):E9 im mi at_ loc Dl=aR im mi at_ loc Dl:=by
  unfold E9 aR;by_cases h1:EZ im.ms mi=true
  · rw [if_pos h1,if_pos h1];cases im.ms[mi.toNat]? with
    |none=>rfl
    | some m=>
      dsimp only;by_cases h2:EZ m.code at_=true
      · rw [if_pos h2,if_pos h2];cases m.code[at_.toNat]? with
        |none=>rfl
        | some y=>
          dsimp only;cases rowOf im m loc y.op y.a y.b with
          |none=>rfl
          | some r=>
            dsimp only;by_cases h3:r.is=false
            · rw [if_pos h3,if_pos h3]
            · rw [if_neg h3,if_neg h3];by_cases h4:Dl.length<r.take.length∨¬Jv (Dl.drop (Dl.length - r.take.length)) r.take∨ -1∈r.put
              · have h4':Dl.length<r.take.length∨¬Nv (Dl.drop (Dl.length - r.take.length)) r.take=true∨ -1∈r.put:=by rw [On];exact h4
                rw [if_pos h4,if_pos h4']
              · have h4':¬(Dl.length<r.take.length∨¬Nv (Dl.drop (Dl.length - r.take.length)) r.take=true∨ -1∈r.put):=by rw [On];exact h4
                rw [if_neg h4,if_neg h4']
      · rw [if_neg h2,if_neg h2]
  · rw [if_neg h1,if_neg h1]
def TB(im:Im)(mi:Int)(nx:Nat->List Nat)(σ:Fs)(at_:Nat)(b:Bool):Except Er (Fs×Bool):=
  match σ[at_]? with
  | some (some g)=>match aR im mi at_ g.1 g.2 with
    | .inl c=> .error (c,at_)
    | .inr f=>Hb σ f (nx at_) b
  |_=> .ok (σ,b)
theorem bG(im:Im)(mi:Int)(nx:Nat->List Nat)(σ:Fs)(at_:Nat)(b:Bool):FN im mi nx σ at_ b=TB im mi nx σ at_ b:=by
  unfold FN TB;simp only [eR]
  rfl
def Tt(im:Im)(mi:Int)(nx:Nat->List Nat):Fs->List Nat->Bool->Except Er (Fs×Bool)
  |σ,[],b=> .ok (σ,b)
  | σ,a::l,b=>match TB im mi nx σ a b with
    | .error e=> .error e
    | .ok (ED,b')=>Tt im mi nx ED l b'
theorem M9(im:Im)(mi:Int)(nx:Nat->List Nat):∀(l:List Nat) (σ:Fs) (b:Bool),Ez im mi nx σ l b=Tt im mi nx σ l b
  | [],_,_=>rfl
  | a::l,σ,b=>by
    unfold Ez Tt;rw [bG];cases TB im mi nx σ a b with
    |error e=>rfl
    |ok p=>exact M9 im mi nx l p.1 p.2
def runs(im:Im)(mi:Int)(nx:Nat->List Nat)(n:Nat):Nat->Fs->Option (Except Er Fs)
  |0,_=>none
  | k+1,σ=>match Tt im mi nx σ (List.range n) false with
    | .error e=>some (.error e)
    | .ok (ED,false)=>some (.ok ED)
    | .ok (ED,true)=>runs im mi nx n k ED
theorem OG{im:Im}{mi:Int}{nx:Nat->List Nat}{n:Nat}{r:Except Er Fs}:∀ {k:Nat} {σ:Fs},runs im mi nx n k σ=some r->E8 im mi nx n σ r
  |0,σ,h=>by cases h
  | k +1,σ,h=>by
    unfold runs at h
    split at h
    · rename_i e he
      cases h
      exact .bad (by rw [M9];exact he)
    · rename_i ED he
      cases h
      exact .done (by rw [M9];exact he)
    · rename_i ED he
      exact .more (by rw [M9];exact he) (OG h)
def TV(x:Int):List Int->List Int
  | []=> [x]
  |y::l=>if x<y then x::y::l else if x=y then y::l else y::TV x l
def RZ(xs:List Int):List Int:=xs.foldr TV []
theorem Qo(x z:Int):∀l:List Int,z∈TV x l↔z=x∨z∈l
  | []=>by simp [TV]
  | y ::l=>by
    unfold TV
    split
    · simp
    · split
      · rename_i h;subst h;simp
      · simp [Qo x z l];constructor
        · rintro(h|h|h) <;>simp [h]
        · rintro(h|h|h) <;>simp [h]
theorem Sn(x:Int):∀ {l:List Int},l.Pairwise (· < ·)->(TV x l).Pairwise (· < ·)
  | [],_=>by simp [TV]
  | y ::l,h=>by
    obtain⟨h1,h2⟩:=List.pairwise_cons.1 h;unfold TV
    split
    · rename_i hx
      refine List.pairwise_cons.2 ⟨fun z hz=> ?_,h⟩;rcases List.mem_cons.1 hz with rfl|hz
      · exact hx
      · have:=h1 z hz;omega
    · split
      · exact h
      · refine List.pairwise_cons.2 ⟨fun z hz=> ?_,Sn x h2⟩;rcases(Qo x z l).1 hz with rfl|hz
        · omega
        · exact h1 z hz
theorem bo(xs:List Int):Nd.KN xs=RZ xs:=by
  have h:(RZ xs).Pairwise (· < ·)/\∀z,z∈RZ xs↔z∈xs:=by
    induction xs with
    |nil=>exact⟨List.Pairwise.nil,fun _=>Iff.rfl⟩
    | cons a l ih=>
      refine⟨Sn a ih.1,fun z=> ?_⟩;show z∈TV a (RZ l)↔_;rw [Qo,ih.2,List.mem_cons]
  exact Nd.fk h.1 fun z=>(h.2 z).symm
def il(x:Nd.Ins)(k:Nat):List Int:=RZ ((if Nd.jmp x.1 then [x.2.1] else [])++(if x.1≠6/\x.1≠20 then [(k:Int)+1] else []))
def bZ(cs:List Nd.Ins)(at_:Int):List Int:=if 0≤at_/\at_<cs.length then il (cs.getD at_.toNat (0,0,0)) at_.toNat else []
theorem bY(cs:List Nd.Ins)(at_:Int):Nd.Gp cs at_=bZ cs at_:=by
  unfold Nd.Gp bZ Nd.IF il;rw [bo]
def kf(cs:List Nd.Ins)(k:Nat):Bool:=(bZ cs (k:Int)).any fun t=> !Nd.NO cs.length t
def fF(cs:List Nd.Ins):Int:=match(List.range cs.length).find? (kf cs) with
  |some k=>(k:Int)
  |none=>if cs.length=0 then 0 else -1
theorem lD(cs:List Nd.Ins):Nd.off cs=fF cs:=by
  have e:Nd.bad cs=kf cs:=by funext k;unfold Nd.bad kf;rw [bY]
  unfold Nd.off fF;rw [e]
  rfl
def jr(l:List Kd.Ins)(n:Nat)(at_:Nat):List Nat:=(bZ (Hy l) (at_:Int)).filterMap fun t:Int=>if 0≤t/\t<n then some t.toNat else none
theorem lG(l:List Kd.Ins)(n:Nat):Q7 l n=jr l n:=by
  funext a;unfold Q7 jr;rw [bY]
def cw(cs:List Nd.Ins):List Int:=(RZ (Nd.G8 cs cs.length)).filter (Nd.NO cs.length)
theorem jA(cs:List Nd.Ins):Nd.leads cs=cw cs:=by unfold Nd.leads cw;rw [bo]
def gQ(cs:List Nd.Ins)(z:Int):Option Int:=
  if 1≤z/\z<cs.length/\Nd.Li (cs.getD z.toNat (0,0,0)).1/\z∉cw cs/\(cs.getD (z - 1).toNat (0,0,0)).1=2 then some (cs.getD (z - 1).toNat (0,0,0)).2.1 else none
theorem mD(cs:List Nd.Ins)(z:Int):Nd.KF cs z=gQ cs z:=by unfold Nd.KF gQ;rw [jA]
def ke(cs:List Nd.Ins)(z:Nat)(s:List Int):Option (List Int):=
  let x:=cs.getD z (0,0,0)
  if Nd.Li x.1/\gQ cs z=none then none
  else Nd.RM x.1 (if x.1=3 then x.2.1 else(gQ cs z).getD 0) s
theorem my(cs:List Nd.Ins)(z:Nat)(s:List Int):Nd.Iy cs z s=ke cs z s:=by unfold Nd.Iy ke;simp only [mD]
def XF (cs:List Nd.Ins)(g:Nd.GS):Nd.GS:=
  if g.res.isSome then g else
  match g.V[g.i]? with
  |none=>{g with res:=some (-1)}
  | some z=>match ke cs z.toNat (g.Dl z) with
    |none=>{g with res:=some z}
    | some s=>match(bZ cs z)[g.k]? with
      |none=>{g with i:=g.i+1,k:=0}
      | some t=>
        if 0≤t/\t<cs.length then
          if t∈g.V then if g.Dl t=s then{g with k:=g.k+1} else{g with res:=some t}
          else{g with V:=g.V++ [t],Dl:=fun q=>if q=t then s else g.Dl q,k:=g.k+1}
        else{g with k:=g.k+1}
theorem gr(cs:List Nd.Ins)(g:Nd.GS):g.step cs=XF cs g:=by
  unfold Nd.GS.step XF;simp only [my,bY]
  rfl
def YC(cs:List Nd.Ins):Nat->Nd.GS
  |0=> .start
  |n+1=>XF cs (YC cs n)
theorem di(cs:List Nd.Ins):∀n,Nd.GS.run cs n=YC cs n
  |0=>rfl
  |n+1=>by rw [Nd.GS.run,YC,gr,di cs n]
def YF(k:Nat)(im:Im)(mi:Int)(m:Me):Option (Except Er Fs):=runs im mi (jr m.code m.code.length) m.code.length k (G2 m m.code.length)
theorem QC{k:Nat}{im:Im}{mi:Int}{m:Me}{r:Except Er Fs}(h0:0<m.code.length)(h:YF k im mi m=some r):He im mi m=r:=
  (Fz im mi m h0).mu (by rw [lG];exact OG h)
def cg(k:Nat)(im:Im)(mi:Int)(m:Me):Option (Option Er):=
  if 0≤fF (Hy m.code) then some (some (8,fF (Hy m.code)))
  else match YF k im mi m with
  |none=>none
  |some (.error e)=>some (some e)
  | some (.ok _)=>match(YC (Hy m.code) k).res with
    |none=>none
    |some w=>some (if 0≤w then some (10,w) else none)
theorem Vg{k:Nat}{im:Im}{mi:Int}{m:Me}{r:Option Er}(h:cg k im mi m=some r):IG im mi m=r:=by
  unfold cg at h
  rw [<-lD] at h
  unfold IG
  split at h
  · rename_i ho
    cases h
    rw [if_pos ho]
  · rename_i ho
    have h0:0<m.code.length:=by have:=Pm (cs:=Hy m.code) Ab;rwa [Fh] at this
    rw [if_neg ho]
    split at h
    · cases h
    · rename_i e he
      cases h
      rw [QC h0 he]
    · rename_i σ he
      rw [QC h0 he];dsimp only
      split at h
      · cases h
      · rename_i w hw
        cases h
        rw [<-(Nd.PD rfl (by rw [di];exact hw)).2.1]
def Ub(k:Nat)(im:Im):Nat->List Me->Option (Option (Int×Int×Int))
  |_,[]=>some none
  | i,m::l=>match cg k im (i:Int) m with
    |none=>none
    |some (some e)=>some (some (e.1,(i:Int),e.2))
    |some none=>Ub k im (i+1) l
theorem S4{k:Nat}{im:Im}{r:Option (Int×Int×Int)}:∀ {l:List Me} {i:Nat},im.ms.drop i=l->(∀j,j<i->GG im j=none)->Ub k im i l=some r->Ex im=r
  | [],i,hl,hb,h=>by
    cases h
    have hlen:im.ms.length≤i:=by simpa using hl
    exact Ow fun j hj=>hb j Ab
  | m ::l,i,hl,hb,h=>by
    have E6:i<im.ms.length:=by
      rcases Nat.lt_or_ge i im.ms.length with q|q
      · exact q
      · rw [List.drop_eq_nil_of_le q] at hl;cases hl
    have hm:im.ms[i]?=some m:=by
      have:(im.ms.drop i)[0]?=some m:=by rw [hl];rfl
      simpa using this
    have FD:GG im i=IG im (i:Int) m:=by simp only [GG,hm]
    unfold Ub at h
    split at h
    · cases h
    · rename_i e he
      cases h
      exact H8 E6 hb (by rw [FD,Vg he])
    · rename_i he
      refine S4 (l:=l) (i:=i+1) ?_ (fun j hj=> ?_) h
      · rw [<-List.drop_drop,hl];rfl
      · by_cases q:j=i
        · rw [q,FD,Vg he]
        · exact hb j Ab
theorem J8{k:Nat}{im:Im}{r:Option (Int×Int×Int)}(h:Ub k im 0 im.ms=some r):Ex im=r:=S4 (i:=0) rfl (fun j hj=>absurd hj (Nat.not_lt_zero _)) h
def GY(l:List Ins):Im:=⟨[[]],[⟨[],2,2,l⟩]⟩
def JL(op a:Int):Ins:=⟨op,a,0⟩
theorem la:Ex (GY [JL 0 1,JL 20 0])=none:=J8 (k:=20) (by decide +kernel)
theorem ql:Ex (GY [JL 0 1])=some (8,0,0):=J8 (k:=20) (by decide +kernel)
theorem qk:Ex (GY [JL 2 0,JL 20 0])=some (9,0,0):=J8 (k:=20) (by decide +kernel)
theorem qj:Ex (GY [JL 0 1,JL 7 3,JL 0 2,JL 0 0,JL 20 0])=some (9,0,3):=J8 (k:=20) (by decide +kernel)
theorem qi:Ex (GY [JL 9 0,JL 3 0,JL 2 0,JL 12 0,JL 0 0,JL 20 0])=some (10,0,5):=J8 (k:=40) (by decide +kernel)
end Go.Proofs.YtcnmnmjmpocepaaGreatDoor
