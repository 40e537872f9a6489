/- A small logic of partial heaps over the kit's walk of code: heaps, environments, and the walk of a piece of code over them. -/
import Derived.CallsIn
import Derived.OrdersIn
import Derived.RangeFuncIn
import Derived.RangeFuncCalls
import Derived.RangeFuncLeaves
namespace Go.SL

/-! ### Heaps -/
/-- What a heap may speak of: a block; the outside world; which cells of a block are frozen. -/
inductive HK
  | b (n : Nat)
  | os
  | fz (n : Nat)
inductive HV
  | o (x : Obj)
  | os (x : Os) (y : Array (Nat × ByteArray))
  | fz (f : Nat → Bool)
abbrev Heap := HK → Option HV
abbrev Env := List (Nat × Value)

def wh (w : World) : Heap
  | .b n => w.heap[n]?.map HV.o
  | .os => some (.os w.os w.output)
  | .fz n => some (.fz fun off => w.frozen? ⟨n, off, none⟩)
theorem wh_b {w : World} {n : Nat} {o : Obj} : wh w (.b n) = some (.o o) ↔ w.heap[n]? = some o := by
  simp only [wh, Option.map_eq_some_iff]
  exact ⟨fun ⟨x, h, e⟩ => by cases e; exact h, fun h => ⟨o, h, rfl⟩⟩
def hle (h k : Heap) : Prop := ∀ b o, h b = some o → k b = some o
def Disj (h k : Heap) : Prop := ∀ b o o', h b = some o → k b = some o' → False
def blk (b : Nat) (o : Obj) : Heap
  | .b x => if x = b then some (.o o) else none
  | _ => none
def emp : Heap := fun _ => none
def join (h k : Heap) : Heap := fun x => match h x with | some o => some o | none => k x
def joins : List Heap → Heap
  | [] => emp
  | h :: r => join h (joins r)

structure Sat (hs : List Heap) (w : World) : Prop where
  le : ∀ h ∈ hs, hle h (wh w)
  dj : hs.Pairwise Disj

theorem Disj.symm {h k : Heap} (d : Disj h k) : Disj k h := fun b o o' x y => d b o' o y x
theorem hle.refl (h : Heap) : hle h h := fun _ _ x => x
theorem hle.trans {h k l : Heap} (a : hle h k) (b : hle k l) : hle h l := fun _ _ x => b _ _ (a _ _ x)
@[simp] theorem blk_self (b : Nat) (o : Obj) : blk b o (.b b) = some (.o o) := by simp [blk]
theorem blk_eq {b : Nat} {x : HK} {o : Obj} {o' : HV} (h : blk b o x = some o') : x = .b b ∧ o' = .o o := by
  cases x with
  | b n =>
    simp only [blk] at h; split at h
    · rename_i e; subst e; cases h; exact ⟨rfl, rfl⟩
    · cases h
  | os => cases h
  | fz n => cases h
theorem hle_blk {b : Nat} {o : Obj} {k : Heap} : hle (blk b o) k ↔ k (.b b) = some (.o o) :=
  ⟨fun h => h (.b b) (.o o) (blk_self b o), fun h x o' hx => by obtain ⟨rfl, rfl⟩ := blk_eq hx; exact h⟩
theorem join_left {h k : Heap} : hle h (join h k) := fun b o x => by simp [join, x]
theorem join_some {h k : Heap} {b : HK} {o : HV} (x : join h k b = some o) : h b = some o ∨ k b = some o := by
  unfold join at x; split at x
  · left; rename_i o' e; rw [e, ← x]
  · right; exact x
theorem join_right {h k : Heap} (d : Disj h k) : hle k (join h k) := fun b o x => by
  unfold join; split
  · rename_i o' e; exact (d b o' o e x).elim
  · exact x
theorem hle_join {h k l : Heap} (a : hle h l) (b : hle k l) : hle (join h k) l := fun x o hx => by
  rcases join_some hx with e | e
  · exact a _ _ e
  · exact b _ _ e
theorem disj_join {h k l : Heap} : Disj l (join h k) → (Disj h k → Disj l h ∧ Disj l k) := fun d dd =>
  ⟨fun b o o' x y => d b o o' x (join_left _ _ y), fun b o o' x y => d b o o' x (join_right dd _ _ y)⟩
theorem disj_join_mk {h k l : Heap} (a : Disj l h) (b : Disj l k) : Disj l (join h k) := fun x o o' y z => by
  rcases join_some z with e | e
  · exact a _ _ _ y e
  · exact b _ _ _ y e

theorem Sat.perm {hs hs' : List Heap} {w : World} (h : Sat hs w) (p : hs.Perm hs') : Sat hs' w :=
  ⟨fun k hk => h.le k (p.mem_iff.2 hk), (p.pairwise_iff (fun d => Disj.symm d)).1 h.dj⟩
theorem Sat.sub {hs hs' : List Heap} {w : World} (h : Sat hs w) (p : hs'.Sublist hs) : Sat hs' w :=
  ⟨fun k hk => h.le k (p.subset hk), h.dj.sublist p⟩
theorem Sat.tail {k : Heap} {hs : List Heap} {w : World} (h : Sat (k :: hs) w) : Sat hs w := h.sub (List.sublist_cons_self _ _)
theorem wh_same {w w' : World} (e : w'.heap = w.heap) (e2 : w'.os = w.os) (e3 : w'.output = w.output) : wh w' = wh w := by
  funext k
  cases k <;> simp [wh, World.frozen?, e, e2, e3]
theorem Sat.heap {hs : List Heap} {w w' : World} (h : Sat hs w) (e : w'.heap = w.heap) (e2 : w'.os = w.os) (e3 : w'.output = w.output) : Sat hs w' :=
  ⟨fun k hk => by rw [wh_same e e2 e3]; exact h.le k hk, h.dj⟩
theorem Sat.swap {h k : Heap} {hs : List Heap} {w : World} (s : Sat (h :: k :: hs) w) : Sat (k :: h :: hs) w := s.perm (List.Perm.swap _ _ _)

/-- What lies in one of the heaps is there. -/
theorem Sat.at {hs : List Heap} {w : World} {h : Heap} {b : Nat} {o : Obj} (s : Sat hs w) (hm : h ∈ hs) (hb : h (.b b) = some (.o o)) : w.heap[b]? = some o := wh_b.1 (s.le h hm _ _ hb)

/-- One heap turns; whatever is outside of it stays. -/
theorem Sat.upd {h h' : Heap} {hs : List Heap} {w w' : World} (s : Sat (h :: hs) w) (hl : hle h' (wh w'))
    (keep : ∀ b o, h b = none → wh w b = some o → wh w' b = some o) (dom : ∀ b o, h' b = some o → wh w b = none ∨ ∃ o', h b = some o') : Sat (h' :: hs) w' := by
  obtain ⟨d1, d2⟩ := List.pairwise_cons.1 s.dj
  refine ⟨fun k hk => ?_, List.pairwise_cons.2 ⟨fun k hk b o o' x y => ?_, d2⟩⟩
  · rcases List.mem_cons.1 hk with rfl | hk
    · exact hl
    · intro b o x
      have hw := s.le k (List.mem_cons_of_mem _ hk) b o x
      refine keep b o ?_ hw
      cases e : h b with
      | none => rfl
      | some o' => exact (d1 k hk b o' o e x).elim
  · have hw := s.le k (List.mem_cons_of_mem _ hk) b o' y
    rcases dom b o x with e | ⟨o2, e⟩
    · rw [hw] at e; cases e
    · exact d1 k hk b o2 o' e y

/-- One block that turns. -/
theorem wh_but {w w' : World} {b : Nat} (h1 : w'.os = w.os) (h2 : w'.output = w.output) (h3 : ∀ k, k ≠ b → w'.heap[k]? = w.heap[k]?) (h4 : ∀ off, w'.frozen? ⟨b, off, none⟩ = w.frozen? ⟨b, off, none⟩) :
    ∀ k, k ≠ .b b → wh w' k = wh w k := by
  intro k hk
  cases k with
  | b n => simp only [wh]; rw [h3 n (fun e => hk (by rw [e]))]
  | os => simp only [wh, h1, h2]
  | fz n =>
    simp only [wh]
    congr 2
    funext off
    by_cases e : n = b
    · subst e; exact h4 off
    · simp only [World.frozen?, h3 n e]
theorem Sat.set {hs : List Heap} {w w' : World} {b : Nat} {o o' : Obj} (s : Sat (blk b o :: hs) w) (h : w'.heap[b]? = some o') (h1 : w'.os = w.os) (h2 : w'.output = w.output) (h3 : ∀ k, k ≠ b → w'.heap[k]? = w.heap[k]?)
    (h4 : ∀ off, w'.frozen? ⟨b, off, none⟩ = w.frozen? ⟨b, off, none⟩) : Sat (blk b o' :: hs) w' := by
  have kb := wh_but h1 h2 h3 h4
  refine s.upd (hle_blk.2 (wh_b.2 h)) (fun k u hk hu => ?_) (fun k u hk => ?_)
  · rw [kb k (fun e => by subst e; simp at hk)]; exact hu
  · obtain ⟨rfl, -⟩ := blk_eq hk
    exact .inr ⟨_, blk_self _ _⟩
/-- Which cells of it are frozen. -/
def fzo : Obj → Nat → Bool
  | .cells _ _ (lo, hi), off => lo ≤ off && off < hi
  | _, _ => false
theorem frozen_at {w : World} {b : Nat} {o : Obj} (h : w.heap[b]? = some o) (off : Nat) : w.frozen? ⟨b, off, none⟩ = fzo o off := by
  simp only [World.frozen?, h]
  cases o <;> rfl
theorem Sat.put {hs : List Heap} {w w' : World} {b : Nat} {o o' : Obj} (s : Sat (blk b o :: hs) w) (h : w'.heap[b]? = some o') (h1 : w'.os = w.os) (h2 : w'.output = w.output) (h3 : ∀ k, k ≠ b → w'.heap[k]? = w.heap[k]?)
    (h4 : ∀ off, fzo o' off = fzo o off) : Sat (blk b o' :: hs) w' :=
  s.set h h1 h2 h3 fun off => by rw [frozen_at h, frozen_at (wh_b.1 (s.le _ (List.mem_cons_self ..) _ _ (blk_self b o))), h4]
theorem sat_alloc {hs : List Heap} {w : World} (s : Sat hs w) (o : Obj) (hz : ∀ off, fzo o off = false) : Sat (blk w.heap.size o :: hs) { w with heap := w.heap.push o } := by
  have hn : ({ w with heap := w.heap.push o } : World).heap[w.heap.size]? = some o := by simp
  have kb : ∀ k, k ≠ .b w.heap.size → wh { w with heap := w.heap.push o } k = wh w k := wh_but rfl rfl (fun k hk => by
    simp only [Array.getElem?_push]; rw [if_neg hk]) (fun off => by
    rw [frozen_at hn, hz]; simp [World.frozen?])
  have ho : wh w (.b w.heap.size) = none := by simp [wh]
  refine ⟨fun h hm => ?_, List.pairwise_cons.2 ⟨fun h hm b o1 o2 h1 h2 => ?_, s.dj⟩⟩
  · rcases List.mem_cons.1 hm with rfl | hm
    · rw [hle_blk]; exact wh_b.2 hn
    · intro b o' hb
      have := s.le h hm b o' hb
      rw [kb b (fun e => by rw [e, ho] at this; cases this)]
      exact this
  · obtain ⟨rfl, -⟩ := blk_eq h1
    have := s.le h hm _ o2 h2
    rw [ho] at this; cases this
theorem Sat.split {h k : Heap} {hs : List Heap} {w : World} (s : Sat (join h k :: hs) w) (d : Disj h k) : Sat (h :: k :: hs) w := by
  obtain ⟨d1, d2⟩ := List.pairwise_cons.1 s.dj
  refine ⟨fun l hl => ?_, List.pairwise_cons.2 ⟨fun l hl => ?_, List.pairwise_cons.2 ⟨fun l hl => ?_, d2⟩⟩⟩
  · rcases List.mem_cons.1 hl with rfl | hl
    · exact join_left.trans (s.le _ (List.mem_cons_self ..))
    · rcases List.mem_cons.1 hl with rfl | hl
      · exact (join_right d).trans (s.le _ (List.mem_cons_self ..))
      · exact s.le l (List.mem_cons_of_mem _ hl)
  · rcases List.mem_cons.1 hl with rfl | hl
    · exact d
    · exact fun b o o' x y => d1 l hl b o o' (join_left _ _ x) y
  · exact fun b o o' x y => d1 l hl b o o' (join_right d _ _ x) y
theorem Sat.join {h k : Heap} {hs : List Heap} {w : World} (s : Sat (h :: k :: hs) w) : Sat (join h k :: hs) w := by
  obtain ⟨d1, d2⟩ := List.pairwise_cons.1 s.dj
  obtain ⟨d3, d4⟩ := List.pairwise_cons.1 d2
  refine ⟨fun l hl => ?_, List.pairwise_cons.2 ⟨fun l hl => ?_, d4⟩⟩
  · rcases List.mem_cons.1 hl with rfl | hl
    · exact hle_join (s.le _ (List.mem_cons_self ..)) (s.le _ (List.mem_cons_of_mem _ (List.mem_cons_self ..)))
    · exact s.le l (List.mem_cons_of_mem _ (List.mem_cons_of_mem _ hl))
  · exact (disj_join_mk (d1 l (List.mem_cons_of_mem _ hl)).symm (d3 l hl).symm).symm
theorem Sat.disj {h k : Heap} {hs : List Heap} {w : World} (s : Sat (h :: k :: hs) w) : Disj h k := (List.pairwise_cons.1 s.dj).1 k (List.mem_cons_self ..)

/-- All of them as one. -/
theorem Sat.joins {hs : List Heap} : ∀ {ks : List Heap} {w : World}, Sat (hs ++ ks) w → Sat (joins hs :: ks) w := by
  induction hs with
  | nil =>
    intro ks w s
    refine ⟨fun l hl => ?_, List.pairwise_cons.2 ⟨fun _ _ _ _ _ x _ => (by cases x), s.dj⟩⟩
    rcases List.mem_cons.1 hl with rfl | hl
    · intro b o x; cases x
    · exact s.le l hl
  | cons h hs ih =>
    intro ks w s
    have s2 : Sat (hs ++ (h :: ks)) w := s.perm (by simpa using (List.perm_middle (a := h) (l₁ := hs) (l₂ := ks)).symm)
    have s3 := ih s2
    exact s3.swap.join
theorem Sat.unjoins {hs : List Heap} (d : hs.Pairwise Disj) : ∀ {ks : List Heap} {w : World}, Sat (SL.joins hs :: ks) w → Sat (hs ++ ks) w := by
  induction hs with
  | nil => intro ks w s; exact s.tail
  | cons h hs ih =>
    intro ks w s
    obtain ⟨d1, d2⟩ := List.pairwise_cons.1 d
    have hd : Disj h (SL.joins hs) := by
      clear ih s d d2
      induction hs with
      | nil => intro b o o' _ x; cases x
      | cons k ks ih2 => exact disj_join_mk (d1 k (List.mem_cons_self ..)) (ih2 fun l hl => d1 l (List.mem_cons_of_mem _ hl))
    have s2 := (s.split hd).swap
    have s3 := ih d2 s2
    exact s3.perm (by simp [List.perm_middle])

/-! ### Environments -/
def look : Env → Nat → Option Value
  | [], _ => none
  | (j, v) :: r, i => match Nat.beq j i with
    | true => some v
    | false => look r i

def ev (env : Env) : Operand → Option Value
  | .tmp t => look env t
  | .const v => some v
  | .global g => some (.pointer (some ⟨g, 0, none⟩))
  | .func f => some (.func (.func f) #[] #[])

structure Has (n : Nat) (env : Env) (a : Act) : Prop where
  size : a.tmps.size = n
  get : ∀ i v, look env i = some v → a.tmps[i]? = some v

theorem Has.eval {n : Nat} {env : Env} {a : Act} (h : Has n env a) {x : Operand} {v : Value} (e : ev env x = some v) : a.eval x = v := by
  cases x with
  | tmp t => simp only [ev] at e; simp [Act.eval, h.get t v e]
  | const c => simp only [ev, Option.some.injEq] at e; exact e
  | global g => simp only [ev, Option.some.injEq] at e; exact e
  | func f => simp only [ev, Option.some.injEq] at e; exact e

theorem look_cons_self (i : Nat) (v : Value) (env : Env) : look ((i, v) :: env) i = some v := by simp [look]
theorem look_cons_ne {i j : Nat} (v : Value) (env : Env) (h : j ≠ i) : look ((j, v) :: env) i = look env i := by
  have : Nat.beq j i = false := by
    cases e : Nat.beq j i with
    | false => rfl
    | true => exact absurd (Nat.eq_of_beq_eq_true e) h
  simp [look, this]

theorem Has.put {n : Nat} {env : Env} {a : Act} (h : Has n env a) {d : Nat} (v : Value) (hd : d < n) : Has n ((d, v) :: env) (a.put (some d) v) := by
  refine ⟨by simp [Act.put, h.size], fun i u hu => ?_⟩
  by_cases e : d = i
  · subst e
    rw [look_cons_self] at hu; cases hu
    simp [Act.put, h.size, hd]
  · rw [look_cons_ne _ _ e] at hu
    have := h.get i u hu
    simp only [Act.put]
    rw [Array.getElem?_setIfInBounds_ne e]; exact this

/-- One environment says no more than another one. -/
def Sub (env' env : Env) : Prop := ∀ p ∈ env', look env p.1 = some p.2
theorem Sub.nil (env : Env) : Sub [] env := fun _ h => by cases h
theorem Sub.cons {i : Nat} {v : Value} {env' env : Env} (h : look env i = some v) (r : Sub env' env) : Sub ((i, v) :: env') env := fun p hp => by
  rcases List.mem_cons.1 hp with rfl | hp
  · exact h
  · exact r p hp
theorem look_mem {env : Env} {i : Nat} {v : Value} (h : look env i = some v) : (i, v) ∈ env := by
  induction env with
  | nil => cases h
  | cons p r ih =>
    obtain ⟨j, u⟩ := p
    by_cases e : j = i
    · subst e; rw [look_cons_self] at h; cases h; exact List.mem_cons_self ..
    · rw [look_cons_ne _ _ e] at h; exact List.mem_cons_of_mem _ (ih h)
theorem Has.weaken {n : Nat} {env env' : Env} {a : Act} (h : Has n env a) (s : Sub env' env) : Has n env' a :=
  ⟨h.size, fun i v hi => h.get i v (s _ (look_mem hi))⟩

/-! ### The walk of code -/
def fen : Option Nat → Fence
  | none => Fence.wide
  | some l => Fence.wide.inRound l
@[simp] theorem fen_fn (r : Option Nat) (f : FuncId) : (fen r).fn f = True := by cases r <;> rfl
@[simp] theorem fen_depth (r : Option Nat) : (fen r).depth = none := by cases r <;> rfl
@[simp] theorem fen_round (r : Option Nat) : (fen r).round = r := by cases r <;> rfl
theorem fen_room (r : Option Nat) (k : Nat) : (fen r).room k := fun d h => by simp at h

theorem callsIn_fen {r : Option Nat} {P : Program} {f : FuncId} {args : Array Value} {w : World} {R : Ending → World → Prop} (k : Nat) (h : Calls P f args w R) : CallsIn (fen r) k P f args w R := by
  cases r with
  | none => exact callsIn_wide.2 h
  | some l => exact CallsIn.inRound l (callsIn_wide.2 h)

abbrev SPost := Exit → Env → List Heap → List Deferred → Prop

def Lift (F : Heap) (n : Nat) (Q : SPost) : Exit → Act → World → Prop := fun e a w =>
  e ≠ .outgrown ∧ ∃ env own, Has n env a ∧ Sat (F :: own) w ∧ Q e env own a.defers

def SWP (P : Program) (r : Option Nat) (F : Heap) (n : Nat) (c : Code) (Q : SPost) (env : Env) (own : List Heap) (ds : List Deferred) : Prop :=
  ∀ a w, Has n env a → a.defers = ds → Sat (F :: own) w → c.wpIn (fen r) 0 P (Lift F n Q) a w

def Thn (K : Env → List Heap → List Deferred → Prop) (Q : SPost) : SPost
  | .normal, env, own, ds => K env own ds
  | e, env, own, ds => Q e env own ds

def InB (id : Nat) (Q : SPost) : SPost
  | .exit id', env, own, ds => if id' = id then Q .normal env own ds else Q (.exit id') env own ds
  | e, env, own, ds => Q e env own ds

section
variable {P : Program} {r : Option Nat} {F : Heap} {n : Nat} {Q : SPost} {env : Env} {own : List Heap} {ds : List Deferred}

theorem Lift.mk {e : Exit} {a : Act} {w : World} (he : e ≠ .outgrown) (h : Has n env a) (hd : a.defers = ds) (s : Sat (F :: own) w) (q : Q e env own ds) : Lift F n Q e a w :=
  ⟨he, env, own, h, s, hd ▸ q⟩

theorem SWP.mono {c : Code} {Q' : SPost} (h : SWP P r F n c Q env own ds) (hq : ∀ e env own ds, Q e env own ds → Q' e env own ds) : SWP P r F n c Q' env own ds :=
  fun a w ha hd hs => wpIn_mono (h a w ha hd hs) fun _ _ _ ⟨he, env, own, h1, h2, h3⟩ => ⟨he, env, own, h1, h2, hq _ _ _ _ h3⟩

theorem SWP.weaken {c : Code} {env' : Env} {own' : List Heap} (he : Sub env' env) (ho : ∀ w, Sat (F :: own) w → Sat (F :: own') w) (h : SWP P r F n c Q env' own' ds) : SWP P r F n c Q env own ds :=
  fun a w ha hd hs => h a w (ha.weaken he) hd (ho w hs)

theorem swp_seq {x y : Code} (h : SWP P r F n x (Thn (SWP P r F n y Q) Q) env own ds) : SWP P r F n (.seq x y) Q env own ds :=
  fun a w ha hd hs => wpIn_seq (wpIn_mono (h a w ha hd hs) fun e a' w' ⟨he, env', own', h1, h2, h3⟩ => by
    cases e with
    | normal => exact h3 a' w' h1 rfl h2
    | outgrown => exact absurd rfl he
    | _ => exact ⟨he, env', own', h1, h2, h3⟩)
theorem swp_skip (h : Q .normal env own ds) : SWP P r F n .skip Q env own ds := fun _ _ ha hd hs => wpIn_skip (Lift.mk (by simp) ha hd hs h)
theorem swp_label {l : Nat} (h : Q .normal env own ds) : SWP P r F n (.label l) Q env own ds := fun _ _ ha hd hs => wpIn_label (Lift.mk (by simp) ha hd hs h)
theorem swp_exit {id : Nat} (h : Q (.exit id) env own ds) : SWP P r F n (.exit id) Q env own ds := fun _ _ ha hd hs => wpIn_exit (Lift.mk (by simp) ha hd hs h)
theorem swp_ret (h : Q .ret env own ds) : SWP P r F n .ret Q env own ds := fun _ _ ha hd hs => wpIn_ret (Lift.mk (by simp) ha hd hs h)
theorem swp_cond {c : Operand} {x y : Code} {t : Bool} (hc : ev env c = some (.bool t)) (h1 : t = true → SWP P r F n x Q env own ds) (h2 : t = false → SWP P r F n y Q env own ds) :
    SWP P r F n (.cond c x y) Q env own ds :=
  fun a w ha hd hs => wpIn_cond_split (ha.eval hc) (fun e => h1 e a w ha hd hs) (fun e => h2 e a w ha hd hs)
theorem swp_true {c : Operand} {x y : Code} (hc : ev env c = some (.bool true)) (h1 : SWP P r F n x Q env own ds) : SWP P r F n (.cond c x y) Q env own ds :=
  fun a w ha hd hs => wpIn_cond_true (ha.eval hc) (h1 a w ha hd hs)
theorem swp_false {c : Operand} {x y : Code} (hc : ev env c = some (.bool false)) (h1 : SWP P r F n y Q env own ds) : SWP P r F n (.cond c x y) Q env own ds :=
  fun a w ha hd hs => wpIn_cond_false (ha.eval hc) (h1 a w ha hd hs)
theorem swp_block {id : Nat} {c : Code} (h : SWP P r F n c (InB id Q) env own ds) : SWP P r F n (.block id c) Q env own ds :=
  fun a w ha hd hs => wpIn_block (wpIn_mono (h a w ha hd hs) fun e a' w' ⟨he, env', own', h1, h2, h3⟩ => by
    cases e with
    | exit id' =>
      simp only [Exit.inBlock, InB] at h3 ⊢
      split
      · rw [if_pos (by assumption)] at h3; exact ⟨by simp, env', own', h1, h2, h3⟩
      · rw [if_neg (by assumption)] at h3; exact ⟨by simp, env', own', h1, h2, h3⟩
    | _ => exact ⟨he, env', own', h1, h2, h3⟩)

theorem least {p : Nat → Prop} : ∀ m, p m → ∃ k, p k ∧ ∀ j, p j → k ≤ j := by
  intro m
  induction m using Nat.strongRecOn with
  | _ m ih =>
    intro h
    by_cases e : ∃ j, j < m ∧ p j
    · obtain ⟨j, hj, hp⟩ := e; exact ih j hj hp
    · exact ⟨m, h, fun j hj => Nat.le_of_not_lt fun hlt => e ⟨j, hlt, hj⟩⟩

theorem least' {p : Nat → Prop} (h : ∃ m, p m) : ∃ k, p k ∧ ∀ j, p j → k ≤ j := h.elim fun m hm => least m hm

/-- A loop: what holds at each round's head ('I', with a number that falls). -/
theorem swp_loop {c : Code} (I : Env → List Heap → Nat → Prop) (m : Nat)
    (round : ∀ env own m, I env own m → SWP P r F n c (Thn (fun env' own' ds' => ds' = ds ∧ ∃ env2 own2 m', m' < m ∧ Sub env2 env' ∧ (∀ w, Sat (F :: own') w → Sat (F :: own2) w) ∧ I env2 own2 m') Q) env own ds)
    (h0 : I env own m) : SWP P r F n (.loop c) Q env own ds := by
  intro a w ha hd hs
  -- the measure: the least number at which the state is as 'I' says
  let J : Act → World → Nat → Prop := fun a w m => a.defers = ds ∧ ∃ env own, Has n env a ∧ Sat (F :: own) w ∧ I env own m
  have hJ : J a w m := ⟨hd, env, own, ha, hs, h0⟩
  classical
  let μ : Act → World → Nat := fun a w => if h : ∃ m, J a w m then Classical.choose (least' h) else 0
  have hμ : ∀ {a w} (h : ∃ m, J a w m), J a w (μ a w) := fun {a w} h => by
    simp only [μ, dif_pos h]; exact (Classical.choose_spec (least' h)).1
  have hle : ∀ {a w m}, J a w m → μ a w ≤ m := fun {a w m} h => by
    have hx : ∃ m, J a w m := ⟨m, h⟩
    simp only [μ, dif_pos hx]; exact (Classical.choose_spec (least' hx)).2 m h
  refine wpIn_loop (fun a w => ∃ m, J a w m) μ ⟨m, hJ⟩ (fun a w h => ?_)
  obtain ⟨hd', env', own', h1, h2, h3⟩ := hμ h
  refine wpIn_mono (round env' own' _ h3 a w h1 hd' h2) fun e a' w' ⟨he, env'', own'', g1, g2, g3⟩ => ?_
  cases e with
  | normal =>
    obtain ⟨hds, env2, own2, m', hlt, hsub, hsat, hI⟩ := g3
    have hj : J a' w' m' := ⟨hds, env2, own2, g1.weaken hsub, hsat w' g2, hI⟩
    exact ⟨⟨m', hj⟩, Nat.lt_of_le_of_lt (hle hj) hlt⟩
  | outgrown => exact absurd rfl he
  | _ => exact ⟨he, env'', own'', g1, g2, g3⟩
end
end Go.SL
