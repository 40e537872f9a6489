
import Derived.Test.YtcnmnmjmpocepaaGreatDoorU00
import Derived.Test.YtcnmnmjmpocepaaGreatDoorU11
import Derived.Test.YtcnmnmjmpocepaaGreatDoorU20
set_option linter.unusedVariables false
set_option linter.unusedSimpArgs false
set_option linter.unusedSectionVars false
set_option maxRecDepth 100000
set_option maxHeartbeats 16000000
namespace Go.Proofs.YtcnmnmjmpocepaaGreatDoor
open Kd
def I2(σ:Fs):Nat:=(σ.map fun o=>if o.isSome then 1 else 0).sum
theorem Mv:∀(σ:Fs),I2 σ≤σ.length
  | []=>Nat.le_refl _
  | a::σ=>by
    have:=Mv σ;simp only [I2,List.map_cons,List.sum_cons,List.length_cons] at this ⊢
    split <;>omega
theorem I1:∀ {σ:Fs} {i:Nat} {o:Option Fm} (o':Option Fm),σ[i]?=some o->I2 (σ.set i o')+(if o.isSome then 1 else 0)=I2 σ+(if o'.isSome then 1 else 0)
  | [],_,_,_,h=>by simp at h
  | a::σ,0,o,o',h=>by
    simp at h;subst h
    simp [I2];omega
  | a::σ,i+1,o,o',h=>by
    have:=I1 (σ:=σ) (i:=i) o' (by simpa using h);simp [I2] at this ⊢;omega
def G7(σ:Fs):Prop:=∀g,some g∈σ->g.1.length≤65536/\g.2.length+1≤I2 σ
theorem SV{σ Dj:Fs}{t:Nat}{f:Fm}{c:Bool}(hS:G7 σ)(h1:f.1.length≤65536)(h2:f.2.length≤I2 σ)(h:E1 σ t f= .ok (Dj,c)):
    G7 Dj/\I2 σ≤I2 Dj/\Dj.length=σ.length:=by
  unfold E1 at h
  split at h
  · cases h;exact⟨hS,Nat.le_refl _,rfl⟩
  · rename_i e
    cases h
    have hc:=I1 (some f) e;simp at hc
    refine⟨fun g hg=> ?_,by omega,by simp⟩;rcases List.mem_or_eq_of_mem_set hg with q|q
    · have:=hS g q;omega
    · cases q;omega
  · rename_i g e
    split at h
    · rename_i hj
      cases h
      have hc:=I1 (some (CP g.1 f.1,g.2)) e;simp at hc
      refine⟨fun g' hg=> ?_,by omega,by simp⟩;rcases List.mem_or_eq_of_mem_set hg with q|q
      · have:=hS g' q;omega
      · cases q
        have:=hS g (List.mem_of_getElem? e);rw [Dz hj.1];dsimp only;omega
    · cases h
theorem SW{f:Fm}(h1:f.1.length≤65536):∀ {ts:List Nat} {σ Dj:Fs} {b c:Bool},G7 σ->f.2.length≤I2 σ->Gb σ f ts b= .ok (Dj,c)->G7 Dj/\I2 σ≤I2 Dj/\Dj.length=σ.length
  | [],σ,Dj,b,c,hS,h2,h=>by cases h;exact⟨hS,Nat.le_refl _,rfl⟩
  | t ::ts,σ,Dj,b,c,hS,h2,h=>by
    unfold Gb at h
    split at h
    · cases h
    · rename_i Rl c1 e
      obtain⟨a1,a2,a3⟩:=SV hS h1 h2 e;obtain⟨b1,b2,b3⟩:=SW h1 a1 Ab h;exact⟨b1,by omega,by omega⟩
theorem US{m:Me}{y:Ins}{loc CX:List Int}{r:Row}{f:Fm}(hr:r.put.length≤1)(h:Es m y loc CX r= .inr f):f.2.length≤CX.length+1:=by
  unfold Es at h
  repeat' split at h
  all_goals first|(cases h;done)|(cases h;simp only [List.length_append,List.length_take];omega)
theorem Ir {im:Im}{mi at_:Int}{loc CX:List Int}{f:Fm}(h:Dv im mi at_ loc CX= .inr f):f.2.length≤CX.length+1:=by
  unfold Dv at h
  split at h
  · split at h
    · cases h
    · split at h
      · split at h
        · cases h
        · split at h
          · cases h
          · rename_i r hr
            exact US (Qu hr) h
      · cases h
  · cases h
theorem Wj{im:Im}{mi:Int}{nx:Nat->List Nat}{σ Dj:Fs}{a:Nat}{b c:Bool}(hS:G7 σ)(h:Fw im mi nx σ a b= .ok (Dj,c)):
    G7 Dj/\I2 σ≤I2 Dj/\Dj.length=σ.length:=by
  unfold Fw at h
  split at h
  · rename_i g e
    split at h
    · cases h
    · rename_i f ef
      have hl:=Hv ef;have hk:=Ir ef;have hg:=hS g (List.mem_of_getElem? e);exact SW Ab hS Ab h
  · cases h;exact⟨hS,Nat.le_refl _,rfl⟩
theorem Jn{im:Im}{mi:Int}{nx:Nat->List Nat}{a:Nat}:∀ {l:List Nat} {σ:Fs} {b:Bool},
    D1 im mi nx σ (l++ [a]) b=match D1 im mi nx σ l b with| .error e=> .error e| .ok (Dj,b')=>Fw im mi nx Dj a b'
  | [],σ,b=>by
    simp only [List.nil_append,D1]
    split <;>rename_i h <;>rw [h]
  | x::l,σ,b=>by
    simp only [List.cons_append,D1]
    split
    · rfl
    · exact Jn
theorem Oq{f:Fm}{t:Nat}:∀ {ts:List Nat} {σ:Fs} {b:Bool},
    Gb σ f (ts++ [t]) b=match Gb σ f ts b with| .error e=> .error e| .ok (Dj,b')=>(match E1 Dj t f with| .error e=> .error e| .ok (dZ,c)=> .ok (dZ,b' ||c))
  | [],σ,b=>by
    simp only [List.nil_append,Gb];cases E1 σ t f <;>rfl
  | x::l,σ,b=>by
    simp only [List.cons_append,Gb]
    split
    · rfl
    · exact Oq
end Go.Proofs.YtcnmnmjmpocepaaGreatDoor
