
import Derived.Test.YtcnmnmjmpocepaaGreatDoorV00
import Derived.Test.YtcnmnmjmpocepaaGreatDoorV09
import Derived.Test.YtcnmnmjmpocepaaGreatDoorV42
set_option linter.unusedVariables false
set_option linter.unusedSimpArgs false
set_option linter.unusedSectionVars false
set_option maxRecDepth 100000
set_option maxHeartbeats 16000000
namespace Go.Proofs.YtcnmnmjmpocepaaGreatDoor
open Kd
def I6(x:Int):Prop:= -9223372036854775808≤x/\x≤9223372036854775807
def Bd(l:List Ins):Prop:=∀y∈l,I6 y.a/\I6 y.b
theorem Bd.put{s:Mk}{l:List (Int×Int)}(h:Bd s.code)(hl:∀p∈l,I6 p.2):Bd (s.put l).code:=by
  intro y hy;simp only [Mk.put,List.mem_append,Is,List.mem_map] at hy
  rcases hy with hy|⟨p,hp,rfl⟩
  · exact h y hy
  · exact⟨hl p hp,by show I6 0;unfold I6;decide⟩
theorem Bd.M1{l:List Ins}(h:Bd l)(i:Nat){a:Int}(ha:I6 a):Bd (M1 l i a):=by
  unfold Go.Proofs.YtcnmnmjmpocepaaGreatDoor.M1
  split
  · exact h
  · rename_i y0 e
    intro y hy;rcases List.mem_or_eq_of_mem_set hy with q|q
    · exact h y q
    · subst q;exact⟨ha,(h y0 (List.mem_of_getElem? e)).2⟩
def kY(f:Mk->Mk):Prop:=∀s:Mk,s.code.length≤153->s.locked.length≤5->s.loops≤3->Bd s.code->Bd (f s).code
theorem al{l:List (Int×Int)}(h:l.all (fun p=>decide (-9223372036854775808≤p.2) && decide (p.2≤9223372036854775807))=true):∀p∈l,I6 p.2:=by
  intro p hp;have:=List.all_eq_true.1 h p hp;simpa [I6] using this
theorem TO{rec:Mk->Mk}(h:kY rec){k:Nat}(hk:k<5){s:Mk}(hs:s.code.length<150)(Ig:s.locked.length≤5)(MC:s.loops≤3)(hb:Bd s.code):Bd (Gv rec k s).code:=by
  have hk6:I6 (k:Int):=by unfold I6;omega
  have h2:∀p∈ [((2:Int),(k:Int)),(12,0)],I6 p.2:=by
    intro p hp;simp only [List.mem_cons,List.not_mem_nil,or_false] at hp;rcases hp with rfl|rfl
    · exact hk6
    · unfold I6;decide
  have h3:∀p∈ [((2:Int),(k:Int)),(13,0)],I6 p.2:=by
    intro p hp;simp only [List.mem_cons,List.not_mem_nil,or_false] at hp;rcases hp with rfl|rfl
    · exact hk6
    · unfold I6;decide
  unfold Gv
  split
  · exact hb.put (al Ah)
  · refine Bd.put (s:=(rec ((s.put [(2,(k:Int)),(12,0)]).lock k true)).lock k false) ?_ h3;exact h ((s.put [(2,(k:Int)),(12,0)]).lock k true) BJ (by simp only [Mk.lock,Mk.put,List.length_set];exact Ig) MC (hb.put h2)
theorem eH{L A:Nat}{rec:Mk->Mk}(h:kY rec)(hf:Fits L A rec)(hL:L≤100000){s:Mk}(hs:s.code.length<150)(Ig:s.locked.length≤5)(MC:s.loops≤3)(hb:Bd s.code):Bd (LZ rec s).code:=by
  have hl:=hf (s.put [(2,2),(7,0)]) AJ;have h1:=h (s.put [(2,2),(7,0)]) AJ Ig MC (hb.put (al Ah));have hll:=hl.len;exact Bd.put (h1.M1 _ (by unfold I6;omega)) (al Ah)
theorem fR{L A:Nat}{b:List Nat}{rec:Mk->Mk}(h:kY rec)(hf:Fits L A rec)(hL:L≤100000){s:Mk}(hs:s.code.length<150)(Ig:s.locked.length≤5)(MC:s.loops≤3)(hb:Bd s.code):Bd (Jr b rec s).code:=by
  unfold Jr
  split
  · exact hb.put (al Ah)
  · rename_i h3
    have hk:I6 (5+(s.loops:Int)):=by unfold I6;omega
    have h0:I6 0:=by unfold I6;decide
    have h1:I6 1:=by unfold I6;decide
    have hby:I6 (1+((Dj b s.at_%2:Nat):Int)):=by unfold I6;omega
    dsimp only
    generalize Kp:(({s with loops:=s.loops+1}:Mk).nx).put [(0,1+((Dj b s.at_%2:Nat):Int)),(3,5+(s.loops:Int))]=s1
    have YA:Bd s1.code:=by
      subst Kp;refine Bd.put (s:=({s with loops:=s.loops+1}:Mk).nx) hb ?_;intro p hp;simp only [List.mem_cons,List.not_mem_nil,or_false] at hp;rcases hp with rfl|rfl
      · exact hby
      · exact hk
    have VD:s1.code.length=s.code.length+2:=by subst Kp;rw [DV];rfl
    have kL:s1.loops=s.loops+1:=by subst Kp;rfl
    have Ps:Bd (s1.put [(2,5+(s.loops:Int)),(7,0)]).code:=by
      refine YA.put ?_;intro p hp;simp only [List.mem_cons,List.not_mem_nil,or_false] at hp;rcases hp with rfl|rfl
      · exact hk
      · exact h0
    have LK:(s1.put [(2,5+(s.loops:Int)),(7,0)]).code.length=s.code.length+4:=by rw [DV,VD];rfl
    have Sz:s1.locked=s.locked:=by subst Kp;rfl
    have hr:=h (s1.put [(2,5+(s.loops:Int)),(7,0)]) Ab (by show s1.locked.length≤5;rw [Sz];exact Ig) (by show s1.loops≤3;omega) Ps;have hfl:=(hf (s1.put [(2,5+(s.loops:Int)),(7,0)]) Ab).len
    generalize rec (s1.put [(2,5+(s.loops:Int)),(7,0)])=r at*
    refine Bd.put (s:=(r.put [(2,5+(s.loops:Int)),(0,1),(5,0),(3,5+(s.loops:Int)),(6,(s1.code.length:Int))]).to (s1.code.length+1) ((r.put [(2,5+(s.loops:Int)),(0,1),(5,0),(3,5+(s.loops:Int)),(6,(s1.code.length:Int))]).code.length:Int)) ?_ ?_
    · refine Bd.M1 (hr.put ?_) _ (by rw [DV];simp only [List.length_cons,List.length_nil];unfold I6;omega);intro p hp;simp only [List.mem_cons,List.not_mem_nil,or_false] at hp;rcases hp with rfl|rfl|rfl|rfl|rfl
      · exact hk
      · exact h1
      · exact h0
      · exact hk
      · show I6 (s1.code.length:Int);unfold I6;omega
    · intro p hp;simp only [List.mem_cons,List.not_mem_nil,or_false] at hp;rcases hp with rfl|rfl
      · exact h0
      · exact hk
theorem dN{own:Nat}(ho:own≤2){op:Int}{s:Mk}(hb:Bd s.code):Bd (G6 own op s).code:=by
  have h3:∀p∈ [(op,(own:Int)+1),((3:Int),(2:Int))],I6 p.2:=by
    intro p hp;simp only [List.mem_cons,List.not_mem_nil,or_false] at hp;rcases hp with rfl|rfl
    · show I6 ((own:Int)+1);unfold I6;omega
    · unfold I6;decide
  unfold G6
  split
  · exact hb.put (al Ah)
  · dsimp only
    split
    · exact Bd.put (Bd.put (Bd.put (hb.put (al Ah)) (al Ah)) (al Ah)) h3
    · exact Bd.put (hb.put (al Ah)) h3
theorem aH{n:Nat}{s:Mk}(hl:s.locked.length≤5)(hb:Bd s.code):Bd (Gz n s).code:=by
  unfold Gz
  split
  · exact hb
  · rename_i k hk
    have hk5:k<s.locked.length:=by
      have:=List.findIdx?_eq_some_iff_getElem.1 hk;exact this.1
    have hk6:I6 (k:Int):=by unfold I6;omega
    refine hb.put ?_;unfold G0
    split <;>(intro p hp;simp only [List.mem_cons,List.not_mem_nil,or_false] at hp;rcases hp with rfl|rfl|rfl <;>first|exact hk6|(unfold I6;decide))
theorem SW{n:Nat}{s:Mk}(hb:Bd s.code):Bd (Ea n s).code:=by
  have hn:I6 ((n%2:Nat):Int):=by unfold I6;omega
  unfold Ea
  split
  all_goals first
    |(refine hb.put ?_;intro p hp;simp only [List.mem_cons,List.not_mem_nil,or_false] at hp;rcases hp with rfl|rfl|rfl <;>first|exact hn|(unfold I6;decide))
    | (intro y hy
       simp only [List.mem_append,List.mem_singleton] at hy
       rcases hy with (hy|hy)|rfl
       · exact hb y hy
       · simp only [Is,List.map_cons,List.map_nil,List.mem_cons,List.not_mem_nil,or_false] at hy
         rcases hy with rfl|rfl <;>(unfold I6;decide)
       · unfold I6;decide)
theorem X9{L A:Nat}{b:List Nat}{own:Nat}(ho:own≤2){rec:Mk->Mk}(low:Bool)(h:low=false->kY rec/\Fits L A rec)(hL:L≤100000){s:Mk}(hs:s.code.length<150)(Ig:s.locked.length≤5)(MC:s.loops≤3)(hb:Bd s.code):Bd (JS b own rec low s).code:=by
  have ZM:low=true->(if low=true then Dj b s.at_%6 else Dj b s.at_)%12<6:=by intro q;rw [if_pos q];omega
  have hh:¬(if low=true then Dj b s.at_%6 else Dj b s.at_)%12<6->kY rec/\Fits L A rec:=by
    intro q;apply h;cases low with|false=>rfl|true=>exact absurd (ZM rfl) q
  unfold JS;dsimp only
  generalize (if low=true then Dj b s.at_%6 else Dj b s.at_)=n at*
  have OU:Bd s.nx.code:=hb
  split
  · refine Bd.put (s:=s.nx.nx) hb ?_;intro p hp;simp only [List.mem_cons,List.not_mem_nil,or_false] at hp;rcases hp with rfl|rfl
    · show I6 ((Dj b s.nx.at_%5:Nat):Int);unfold I6;omega
    · unfold I6;decide
  · exact OU.put (al Ah)
  · exact OU.put (al Ah)
  · exact SW (s:=s.nx.nx) hb
  · exact SW (s:=s.nx.nx) hb
  · exact aH (s:=s.nx.nx) Ig hb
  · exact TO (hh Ab).1 Ah (s:=s.nx) hs Ig MC hb
  · exact TO (hh Ab).1 Ah (s:=s.nx) hs Ig MC hb
  · exact TO (hh Ab).1 Ah (s:=s.nx) hs Ig MC hb
  · exact eH (hh Ab).1 (hh Ab).2 hL (s:=s.nx) hs Ig MC hb
  · exact fR (hh Ab).1 (hh Ab).2 hL (s:=s.nx) hs Ig MC hb
  · exact dN ho (s:=s.nx) hb
theorem WW{L A:Nat}{f:Mk->Mk}(hf:∀s:Mk,s.code.length<150->Fit L A s (f s))(h:∀s:Mk,s.code.length<150->s.locked.length≤5->s.loops≤3->Bd s.code->Bd (f s).code):∀(i:Nat) (s:Mk),s.locked.length≤5->s.loops≤3->Bd s.code->Bd (PT f i s).code
  |0,s,_,_,hb=>hb
  | i +1,s,Ig,MC,hb=>by
    unfold PT
    split
    · rename_i hc
      have h1:=hf s hc;exact WW hf h i (f s) (by rw [h1.lk];exact Ig) (by rw [h1.loops];exact MC) (h s hc Ig MC hb)
    · exact hb
theorem V9(b:List Nat){own:Nat}(ho:own≤2):∀d:Nat,d≤3->kY (GK b own d)
  | 0,_=>fun s h1 h2 h3 hb=>by
    unfold GK;exact WW (L:=160) (A:=2) (fun s hs=>(KU (L:=153) (A:=0) (own:=own) true (fun h=>by cases h) Ab hs)) (fun s hs Ig MC hb=>X9 (L:=153) (A:=0) ho true (fun h=>by cases h) Ab hs Ig MC hb) _ s.nx h2 h3 hb
  | d+1,hd=>fun s h1 h2 h3 hb=>by
    unfold GK;exact WW (L:=160+7*d+7) (A:=L3 d+2) (fun s hs=>(KU (own:=own) false (fun _=>GX b own d) Ab hs)) (fun s hs Ig MC hb=>X9 ho false (fun _=>⟨V9 b ho d Ab,GX b own d⟩) Ab hs Ig MC hb) _ s.nx h2 h3 hb
theorem gI(b:List Nat){own:Nat}(ho:own≤2):Bd (FK b own):=by
  obtain⟨q1,q2,q3,q4,q5⟩:=Jz own;have hb:Bd (Hl own).code:=by
    rcases(show own=0∨own=1∨own=2 by omega) with rfl|rfl|rfl <;>(intro y hy;revert y;unfold I6;decide)
  exact Bd.put (V9 b ho 3 Ab (Hl own) Ab (by rw [q5];decide) Ab hb) (al Ah)
theorem dC(bs:List Nat)(Nj:Bool)(m8 at8:Nat)(y:Ins)(hy:0≤y.op/\y.op≤255)(ha:I6 y.a)(hz:I6 y.b):Cd.Q5 (R7 (QK bs Nj m8 at8 y)):=by
  have hc:∀k,k≤2->∀c,c=FK (DX bs k) k∨c=Kc m8 at8 y k (FK (DX bs k) k)->(4≤c.length/\c.length≤200)/\∀z∈c,(0≤z.op/\z.op≤255)/\I6 z.a/\I6 z.b:=by
    intro k hk c hc;obtain⟨l1,l2,l3⟩:=Ih (DX bs k) k;have hb:=gI (DX bs k) hk;have h0:∀z∈FK (DX bs k) k,(0≤z.op/\z.op≤255)/\I6 z.a/\I6 z.b:=fun z hz=>⟨by have:=l3 z hz;omega,hb z hz⟩
    rcases hc with rfl|rfl
    · exact⟨⟨l2,l1⟩,h0⟩
    · refine⟨by rw [Fv];exact⟨l2,l1⟩,fun z iw=> ?_⟩;unfold Kc at iw
      split at iw
      · rcases List.mem_or_eq_of_mem_set iw with q|q
        · exact h0 z q
        · subst q;exact⟨hy,ha,hz⟩
      · exact h0 z iw
  have go:∀c0 c1 c2:List Ins,((4≤c0.length/\c0.length≤200)/\∀z∈c0,(0≤z.op/\z.op≤255)/\I6 z.a/\I6 z.b)->((4≤c1.length/\c1.length≤200)/\∀z∈c1,(0≤z.op/\z.op≤255)/\I6 z.a/\I6 z.b)->((4≤c2.length/\c2.length≤200)/\∀z∈c2,(0≤z.op/\z.op≤255)/\I6 z.a/\I6 z.b)->Cd.Q5 (R7 (Ir c0 c1 c2)):=by
    intro c0 c1 c2 h0 h1 h2;have me:∀(p:List Int) (c:List Ins) (most:Int),(p.length:Int)≤most->(∀z∈p,0≤z/\z≤2)->p.length≤8->((4≤c.length/\c.length≤200)/\∀z∈c,(0≤z.op/\z.op≤255)/\I6 z.a/\I6 z.b)->Cd.Q1 most 2 (K8 ⟨p,8,6,c⟩):=by
      intro p c most hp hk sZ hc;refine⟨⟨hp,hk⟩,⟨by show(p.length:Int)≤8;omega,by show(8:Int)≤16;decide⟩,⟨by show(0:Int)≤6;decide,by show(6:Int)≤32;decide⟩,⟨by simp only [K8,List.length_map];omega,by simp only [K8,List.length_map];omega⟩,fun y hy=> ?_⟩;simp only [K8,List.mem_map] at hy
      obtain⟨z,hz,rfl⟩:=hy;exact hc.2 z hz
    refine⟨by show 2≤16;decide,fun f hf=> ?_,⟨by show 1≤3;decide,by show 3≤32;decide⟩,fun i m hm=> ?_⟩
    · simp only [R7,Ir,List.mem_cons,List.not_mem_nil,or_false] at hf
      rcases hf with rfl|rfl
      · exact⟨by decide,(show ∀z∈([0,0,2]:List Int),0≤z/\z≤((2:Nat):Int) by decide)⟩
      · exact⟨by decide,(show ∀z∈([0,1]:List Int),0≤z/\z≤((2:Nat):Int) by decide)⟩
    · rcases i with _|_|_|i
      · cases hm;exact me (Mr 0) c0 0 Ah Ah Ah h0
      · cases hm;exact me (Mr 1) c1 16 Ah Ah Ah h1
      · cases hm;exact me (Mr 2) c2 16 Ah Ah Ah h2
      · simp [R7,Ir] at hm
  unfold QK
  split
  · exact go _ _ _ (hc 0 Ab _ (.inr rfl)) (hc 1 Ab _ (.inr rfl)) (hc 2 Ab _ (.inr rfl))
  · exact go _ _ _ (hc 0 Ab _ (.inl rfl)) (hc 1 Ab _ (.inl rfl)) (hc 2 Ab _ (.inl rfl))
end Go.Proofs.YtcnmnmjmpocepaaGreatDoor
