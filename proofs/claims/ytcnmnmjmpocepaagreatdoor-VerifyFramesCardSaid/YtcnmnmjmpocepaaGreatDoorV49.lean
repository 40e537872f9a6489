
import Derived.Test.YtcnmnmjmpocepaaGreatDoorV00
import Derived.Test.YtcnmnmjmpocepaaGreatDoorV09
import Derived.Test.YtcnmnmjmpocepaaGreatDoorV20
set_option linter.unusedVariables false
set_option linter.unusedSimpArgs false
set_option linter.unusedSectionVars false
set_option maxRecDepth 100000
set_option maxHeartbeats 16000000
namespace Go.Proofs.YtcnmnmjmpocepaaGreatDoor
open Kd
def J7(σ:Fs):Nat:=(σ.map fun o=>if o.isSome then 1 else 0).sum
theorem MI:∀(σ:Fs),J7 σ≤σ.length
  | []=>Nat.le_refl _
  | a::σ=>by
    have:=MI σ;simp only [J7,List.map_cons,List.sum_cons,List.length_cons] at this ⊢
    split <;>omega
theorem KA:∀ {σ:Fs} {i:Nat} {o:Option Fm} (o':Option Fm),σ[i]?=some o->J7 (σ.set i o')+(if o.isSome then 1 else 0)=J7 σ+(if o'.isSome then 1 else 0)
  | [],_,_,_,h=>by simp at h
  | a::σ,0,o,o',h=>by
    simp at h;subst h
    simp [J7];omega
  | a::σ,i+1,o,o',h=>by
    have:=KA (σ:=σ) (i:=i) o' (by simpa using h);simp [J7] at this ⊢;omega
def Hw(σ:Fs):Prop:=∀g,some g∈σ->g.1.length≤65536/\g.2.length+1≤J7 σ
theorem Qz{σ ED:Fs}{t:Nat}{f:Fm}{c:Bool}(hS:Hw σ)(h1:f.1.length≤65536)(h2:f.2.length≤J7 σ)(h:FZ σ t f= .ok (ED,c)):
    Hw ED/\J7 σ≤J7 ED/\ED.length=σ.length:=by
  unfold FZ at h
  split at h
  · cases h;exact⟨hS,Nat.le_refl _,rfl⟩
  · rename_i e
    cases h
    have hc:=KA (some f) e;simp at hc
    refine⟨fun g hg=> ?_,by omega,by simp⟩;rcases List.mem_or_eq_of_mem_set hg with q|q
    · have:=hS g q;omega
    · cases q;omega
  · rename_i g e
    split at h
    · rename_i hj
      cases h
      have hc:=KA (some (EB g.1 f.1,g.2)) e;simp at hc
      refine⟨fun g' hg=> ?_,by omega,by simp⟩;rcases List.mem_or_eq_of_mem_set hg with q|q
      · have:=hS g' q;omega
      · cases q
        have:=hS g (List.mem_of_getElem? e);rw [EY hj.1];dsimp only;omega
    · cases h
theorem VF{f:Fm}(h1:f.1.length≤65536):∀ {ts:List Nat} {σ ED:Fs} {b c:Bool},Hw σ->f.2.length≤J7 σ->Hb σ f ts b= .ok (ED,c)->Hw ED/\J7 σ≤J7 ED/\ED.length=σ.length
  | [],σ,ED,b,c,hS,h2,h=>by cases h;exact⟨hS,Nat.le_refl _,rfl⟩
  | t ::ts,σ,ED,b,c,hS,h2,h=>by
    unfold Hb at h
    split at h
    · cases h
    · rename_i σ1 c1 e
      obtain⟨a1,a2,a3⟩:=Qz hS h1 h2 e;obtain⟨b1,b2,b3⟩:=VF h1 a1 Ab h;exact⟨b1,by omega,by omega⟩
theorem XT{m:Me}{y:Ins}{loc Dl:List Int}{r:Row}{f:Fm}(hr:r.put.length≤1)(h:FQ m y loc Dl r= .inr f):f.2.length≤Dl.length+1:=by
  unfold FQ at h
  repeat' split at h
  all_goals first|(cases h;done)|(cases h;simp only [List.length_append,List.length_take];omega)
theorem Lv {im:Im}{mi at_:Int}{loc Dl:List Int}{f:Fm}(h:E9 im mi at_ loc Dl= .inr f):f.2.length≤Dl.length+1:=by
  unfold E9 at h
  split at h
  · split at h
    · cases h
    · split at h
      · split at h
        · cases h
        · split at h
          · cases h
          · rename_i r hr
            exact XT (Ts hr) h
      · cases h
  · cases h
theorem Zq{im:Im}{mi:Int}{nx:Nat->List Nat}{σ ED:Fs}{a:Nat}{b c:Bool}(hS:Hw σ)(h:FN im mi nx σ a b= .ok (ED,c)):
    Hw ED/\J7 σ≤J7 ED/\ED.length=σ.length:=by
  unfold FN at h
  split at h
  · rename_i g e
    split at h
    · cases h
    · rename_i f ef
      have hl:=JT ef;have hk:=Lv ef;have hg:=hS g (List.mem_of_getElem? e);exact VF Ab hS Ab h
  · cases h;exact⟨hS,Nat.le_refl _,rfl⟩
theorem Ij{im:Im}{mi:Int}{nx:Nat->List Nat}{a:Nat}:∀ {l:List Nat} {σ:Fs} {b:Bool},
    Ez im mi nx σ (l++ [a]) b=match Ez im mi nx σ l b with| .error e=> .error e| .ok (ED,b')=>FN im mi nx ED a b'
  | [],σ,b=>by
    simp only [List.nil_append,Ez]
    split <;>rename_i h <;>rw [h]
  | x::l,σ,b=>by
    simp only [List.cons_append,Ez]
    split
    · rfl
    · exact Ij
theorem ME{f:Fm}{t:Nat}:∀ {ts:List Nat} {σ:Fs} {b:Bool},
    Hb σ f (ts++ [t]) b=match Hb σ f ts b with| .error e=> .error e| .ok (ED,b')=>(match FZ ED t f with| .error e=> .error e| .ok (eE,c)=> .ok (eE,b' ||c))
  | [],σ,b=>by
    simp only [List.nil_append,Hb];cases FZ σ t f <;>rfl
  | x::l,σ,b=>by
    simp only [List.cons_append,Hb]
    split
    · rfl
    · exact ME
end Go.Proofs.YtcnmnmjmpocepaaGreatDoor
