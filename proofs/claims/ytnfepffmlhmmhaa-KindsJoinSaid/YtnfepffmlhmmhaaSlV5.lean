/- Closed calls, run by the kernel: aggregates put together, maps asked; all quiet operations. -/
import Derived.Test.YtnfepffmlhmmhaaSlV4
set_option linter.unusedVariables false
set_option linter.unusedSimpArgs false
namespace Go.SL
noncomputable section

section
variable {P : Program} {ρ : Rn} {E : VE} {env : Env} {H : VH} {own hs : List Heap} {n : Nat} {o : Oper}

/-! ### Aggregates -/
def evpsV (E : VE) : List (Nat × Operand) → Option (List (Nat × VV))
  | [] => some []
  | (i, x) :: r => match evV E x with
    | some v => match evpsV E r with
      | some vs => some ((i, v) :: vs)
      | none => none
    | none => none
def buildVO (place : Nat → Option (Nat × Nat)) : List VV → List (Nat × VV) → Option (List VV)
  | cs, [] => some cs
  | cs, (i, v) :: r => match place i with
    | some (off, sz) => match Nat.beq (cellsV v).length sz, spliceO cs off (cellsV v) with
      | true, some cs' => buildVO place cs' r
      | _, _ => none
    | none => none
theorem build_den {place : Nat → Option (Nat × Nat)} (he : denEnv ρ E = some env) : ∀ {l : List (Nat × Operand)} {qs : List (Nat × VV)} {cs r : List VV} {xs : List Value}, evpsV E l = some qs → denL ρ cs = some xs → buildVO place cs qs = some r →
    ∃ ps ys, evps env l = some ps ∧ buildO place xs ps = some ys ∧ denL ρ r = some ys
  | [], qs, cs, r, xs, hq, hc, hb => by cases hq; cases hb; exact ⟨[], xs, rfl, rfl, hc⟩
  | (i, x) :: l, qs, cs, r, xs, hq, hc, hb => by
    simp only [evpsV] at hq
    cases hv : evV E x with
    | none => rw [hv] at hq; cases hq
    | some v =>
      rw [hv] at hq
      simp only at hq
      cases hl : evpsV E l with
      | none => rw [hl] at hq; cases hq
      | some us =>
        rw [hl] at hq; cases hq
        simp only [buildVO] at hb
        cases hp : place i with
        | none => rw [hp] at hb; cases hb
        | some q =>
          obtain ⟨off, sz⟩ := q
          rw [hp] at hb
          simp only at hb
          cases hz : Nat.beq (cellsV v).length sz with
          | false => rw [hz] at hb; cases hb
          | true =>
            cases hs : spliceO cs off (cellsV v) with
            | none => rw [hz, hs] at hb; cases hb
            | some cs' =>
              rw [hz, hs] at hb
              simp only at hb
              obtain ⟨y, g1, g2⟩ := evV_den he hv
              obtain ⟨zs, g3, g4⟩ := cellsV_den g2
              obtain ⟨ws, g5, g6⟩ := denL_splice hc g4 hs
              obtain ⟨ps, ys, q1, q2, q3⟩ := build_den he hl g6 hb
              refine ⟨(i, y) :: ps, ys, by simp only [evps, g1, q1], ?_, q3⟩
              have : Nat.beq zs.length sz = true := by rw [denL_length g4]; exact hz
              simp only [buildO, hp, g3, this, g5, q2]
/-- The places of a struct's fields. -/
def placesV (P : Program) : List Field → Option (List (Nat × Nat))
  | [] => some []
  | f :: r => match P.info? f.type, placesV P r with
    | some i, some l => some ((f.offset, i.size) :: l)
    | _, _ => none
theorem placesV_ok : ∀ {l : List Field} {pl : List (Nat × Nat)}, placesV P l = some pl → (l.map fun f => (P.info? f.type).map fun i => (f.offset, i.size)) = pl.map some
  | [], pl, h => by cases h; rfl
  | f :: l, pl, h => by
    simp only [placesV] at h
    split at h
    · rename_i i r h1 h2
      cases h
      simp [h1, placesV_ok h2]
    · cases h
def zeroV (P : Program) (t : TypeId) : Option Value := match P.info? t with
  | some i => i.zero
  | none => none
theorem zeroV_run {t : TypeId} {z : Value} (h : zeroV P t = some z) : ∀ w, (zeroValue t).run P w = .ok z w := by
  unfold zeroV at h
  split at h
  · rename_i i hi; exact fun w => by simp [zeroValue, run_info hi, h]
  · cases h
def buildV (P : Program) (E : VE) (t : TypeId) (ps : List (Nat × Operand)) : Option VV := match zeroV P t, evpsV E ps with
  | some (.agg ⟨zs⟩), some qs => match P.underlying t with
    | some (.struct fs) => match placesV P fs.toList with
      | some pl => match buildVO (fun i => nth pl i) (lits zs) qs with
        | some r => some (.agg r)
        | none => none
      | none => none
    | some (.array k e) => match P.info? e with
      | some j => match buildVO (fun i => some (i * j.size, j.size)) (lits zs) qs with
        | some r => some (.agg r)
        | none => none
      | none => none
    | _ => none
  | _, _ => none
theorem buildV_ok {t : TypeId} {ps : Array (Nat × Operand)} {v : VV} (he : denEnv ρ E = some env) (ho : o.op = .build t ps) (h : buildV P E t ps.toList = some v) : ∃ r, den ρ v = some r ∧ OpV P hs n o env r := by
  unfold buildV at h
  split at h
  · rename_i zs qs hz hq
    split at h
    · rename_i fs hu
      split at h
      · rename_i pl hpl
        split at h
        · rename_i r hb
          cases h
          obtain ⟨qs', ys, g1, g2, g3⟩ := build_den he hq (denL_lits zs) hb
          haveI := tyB_struct' (P := P) hu (zeroV_run hz) (placesV_ok hpl)
          exact ⟨.agg ⟨ys⟩, by simp only [den, g3], opv_build ho g1 g2⟩
        · cases h
      · cases h
    · rename_i k e hu
      split at h
      · rename_i j hj
        split at h
        · rename_i r hb
          cases h
          obtain ⟨qs', ys, g1, g2, g3⟩ := build_den he hq (denL_lits zs) hb
          haveI : TyB P t (fun i => some (i * j.size, j.size)) zs := ⟨fun ps cs w hf => by
            have hzc : (Value.agg ⟨zs⟩).cells = ⟨zs⟩ := rfl
            simp [Instr.build, run_und hu, zeroV_run hz, run_size hj, hzc, hf]⟩
          exact ⟨.agg ⟨ys⟩, by simp only [den, g3], opv_build ho g1 g2⟩
        · cases h
      · cases h
    · cases h
  · cases h

/-! ### Maps asked -/
def sameK : TypeDesc → Value → Value → Option Bool
  | .int _, .int k a, .int k' b => match decide (k = k') with | true => some (decide (a = b)) | false => none
  | .string, .string a, .string b => some (a == b)
  | .bool, .bool a, .bool b => some (a == b)
  | _, _, _ => none
theorem sameK_ok {d : TypeDesc} {a b : Value} {r : Bool} (h : sameK d a b = some r) : Instr.sameNow d a b = some r := by
  unfold sameK at h
  split at h
  · rename_i k a k' b
    by_cases hk : k = k'
    · subst hk
      rw [decide_eq_true rfl] at h
      cases h
      by_cases e : a = b <;> simp [Instr.sameNow, e]
    · rw [decide_eq_false hk] at h; cases h
  · cases h; rfl
  · cases h; rfl
  · cases h
def findV (d : TypeDesc) (k : Value) : List ME → Nat → Option (Option (Nat × VV))
  | [], _ => some none
  | e :: es, i => match sameK d k e.key with
    | some true => some (some (i, e.val))
    | some false => findV d k es (i + 1)
    | none => none
theorem findV_ok {d : TypeDesc} {k : Value} : ∀ {es : List ME} {r : List MapEntry} {i : Nat} {q : Option (Nat × VV)}, denE ρ es = some r → findV d k es i = some q →
    ∃ q', Instr.findNow d k r i = some q' ∧ ((q = none ∧ q' = none) ∨ ∃ j v x, q = some (j, v) ∧ q' = some (j, x) ∧ den ρ v = some x)
  | [], r, i, q, hd, h => by cases hd; cases h; exact ⟨none, rfl, .inl ⟨rfl, rfl⟩⟩
  | e :: es, r, i, q, hd, h => by
    simp only [denE] at hd
    split at hd
    · rename_i x r' h1 h2
      cases hd
      simp only [findV] at h
      simp only [Instr.findNow]
      cases hk : sameK d k e.key with
      | none => rw [hk] at h; cases h
      | some b =>
        rw [hk] at h
        rw [sameK_ok hk]
        cases b with
        | true => cases h; exact ⟨_, rfl, .inr ⟨i, e.val, x, rfl, rfl, h1⟩⟩
        | false => exact findV_ok h2 h
    · cases hd
/-- A type whose values may be keys, always. -/
def plainKey : TypeDesc → Bool
  | .int _ | .string | .bool => true
  | _ => false
theorem checkKey_ok {e : Bool} {t : TypeId} {d : TypeDesc} {v : Value} (h : P.underlying t = some d) (hp : plainKey d = true) (w : World) : (Instr.checkKey e 10000 t v).run P w = .ok () w := by
  show (Instr.checkKey e (9999 + 1) t v).run P w = .ok () w
  cases d <;> first | cases hp | skip
  all_goals
    unfold Instr.checkKey
    simp [run_und h]
/-- What a table has at a key; no two have it. -/
def findT (d : TypeDesc) (k : Value) : List (Value × VV) → Option (Option VV)
  | [] => some none
  | (k', v) :: es => match sameK d k k', findT d k es with
    | some true, some none => some (some v)
    | some false, some q => some q
    | _, _ => none
theorem findT_spec {d : TypeDesc} {k : Value} : ∀ {es : List (Value × VV)} {r : List (Value × Value)} {q : Option VV}, denT ρ es = some r → findT d k es = some q →
    (q = none ∧ ∀ p ∈ r, Instr.sameNow d k p.1 = some false) ∨ ∃ v x, q = some v ∧ den ρ v = some x ∧ (∀ p ∈ r, Instr.sameNow d k p.1 = some false ∨ (Instr.sameNow d k p.1 = some true ∧ p.2 = x)) ∧ ∃ p ∈ r, Instr.sameNow d k p.1 = some true
  | [], r, q, hd, h => by cases hd; cases h; exact .inl ⟨rfl, fun p hp => by cases hp⟩
  | (k', v) :: es, r, q, hd, h => by
    simp only [denT] at hd
    split at hd
    · rename_i x r' h1 h2
      cases hd
      simp only [findT] at h
      split at h
      · rename_i hk hf
        cases h
        rcases findT_spec h2 hf with ⟨-, hn⟩ | ⟨v2, x2, e, -⟩
        · refine .inr ⟨v, x, rfl, h1, fun p hp => ?_, (k', x), List.mem_cons_self .., sameK_ok hk⟩
          rcases List.mem_cons.1 hp with rfl | hp
          · exact .inr ⟨sameK_ok hk, rfl⟩
          · exact .inl (hn p hp)
        · cases e
      · rename_i q' hk hf
        cases h
        rcases findT_spec h2 hf with ⟨e, hn⟩ | ⟨v2, x2, e, g1, g2, p2, g3, g4⟩
        · refine .inl ⟨e, fun p hp => ?_⟩
          rcases List.mem_cons.1 hp with rfl | hp
          · exact sameK_ok hk
          · exact hn p hp
        · refine .inr ⟨v2, x2, e, g1, fun p hp => ?_, p2, List.mem_cons_of_mem _ g3, g4⟩
          rcases List.mem_cons.1 hp with rfl | hp
          · exact .inl (sameK_ok hk)
          · exact g2 p hp
      · cases h
    · cases hd
theorem findNow_all {d : TypeDesc} {k x : Value} : ∀ {l : List MapEntry} {i : Nat}, (∀ e ∈ l, Instr.sameNow d k e.key = some false ∨ (Instr.sameNow d k e.key = some true ∧ e.val = x)) → (∃ e ∈ l, Instr.sameNow d k e.key = some true) → ∃ j, Instr.findNow d k l i = some (some (j, x))
  | [], i, _, ⟨e, he, _⟩ => by cases he
  | e :: l, i, h, hex => by
    rcases h e (List.mem_cons_self ..) with h1 | ⟨h1, h2⟩
    · obtain ⟨e', he', h3⟩ := hex
      have := findNow_all (i := i + 1) (fun e2 he2 => h e2 (List.mem_cons_of_mem _ he2)) (by
        rcases List.mem_cons.1 he' with rfl | he'
        · rw [h1] at h3; cases h3
        · exact ⟨e', he', h3⟩)
      obtain ⟨j, hj⟩ := this
      exact ⟨j, by simp only [Instr.findNow, h1]; exact hj⟩
    · exact ⟨i, by simp only [Instr.findNow, h1, h2]⟩
theorem findNow_no {d : TypeDesc} {k : Value} : ∀ {l : List MapEntry} {i : Nat}, (∀ e ∈ l, Instr.sameNow d k e.key = some false) → Instr.findNow d k l i = some none
  | [], i, _ => rfl
  | e :: l, i, h => by
    simp only [Instr.findNow, h e (List.mem_cons_self ..)]
    exact findNow_no fun e' he => h e' (List.mem_cons_of_mem _ he)
theorem findT_ok {d : TypeDesc} {k : Value} {es : List (Value × VV)} {r : List (Value × Value)} {q : Option VV} {ents : List MapEntry} (hd : denT ρ es = some r) (hp : (ents.map fun e => (e.key, e.val)).Perm r) (h : findT d k es = some q) :
    ∃ q', Instr.findNow d k ents 0 = some q' ∧ ((q = none ∧ q' = none) ∨ ∃ j v x, q = some v ∧ q' = some (j, x) ∧ den ρ v = some x) := by
  have mem : ∀ e ∈ ents, (e.key, e.val) ∈ r := fun e he => hp.mem_iff.1 (List.mem_map.2 ⟨e, he, rfl⟩)
  rcases findT_spec hd h with ⟨rfl, hn⟩ | ⟨v, x, rfl, g1, g2, p, g3, g4⟩
  · exact ⟨none, findNow_no fun e he => hn _ (mem e he), .inl ⟨rfl, rfl⟩⟩
  · obtain ⟨e, he, hep⟩ := List.mem_map.1 (hp.mem_iff.2 g3)
    obtain ⟨j, hj⟩ := findNow_all (x := x) (i := 0) (fun e he => g2 _ (mem e he)) ⟨e, he, by rw [← hep] at g4; exact g4⟩
    exact ⟨_, hj, .inr ⟨j, v, x, rfl, rfl, g1⟩⟩
def lookupV (P : Program) (H : VH) (t : TypeId) (ok : Bool) : VV → VV → Option VV
  | .mp b, .lit k => match P.underlying t, getH H b with
    | some (.map kt et), some (.map es _) => match P.underlying kt with
      | some d => match plainKey d, findV d k es 0 with
        | true, some (some (_, v)) => some (match ok with | true => .tup [v, .lit (.bool true)] | false => v)
        | true, some none => match zeroV P et with
          | some z => some (match ok with | true => .tup [.lit z, .lit (.bool false)] | false => .lit z)
          | none => none
        | _, _ => none
      | none => none
    | some (.map kt et), some (.tab es) => match P.underlying kt with
      | some d => match plainKey d, findT d k es with
        | true, some (some v) => some (match ok with | true => .tup [v, .lit (.bool true)] | false => v)
        | true, some none => match zeroV P et with
          | some z => some (match ok with | true => .tup [.lit z, .lit (.bool false)] | false => .lit z)
          | none => none
        | _, _ => none
      | none => none
    | _, _ => none
  | _, _ => none
theorem lookupV_ok {t : TypeId} {ok : Bool} {x ix : Operand} {u k v : VV} {y z : Value} (hH : denH ρ H = some own) (hsub : ∀ h ∈ own, h ∈ hs) (ho : o.op = .lookup t x ix ok)
    (hx : ev env x = some y) (hy : den ρ u = some y) (hi : ev env ix = some z) (hz : den ρ k = some z) (h : lookupV P H t ok u k = some v) : ∃ r, den ρ v = some r ∧ OpV P hs n o env r := by
  unfold lookupV at h
  split at h
  · rename_i b kv
    cases hz
    split at h
    · rename_i kt et es ck hu hg
      split at h
      · rename_i d hd
        obtain ⟨i, r, h1, h2, h3⟩ := map_at hH hsub hg
        obtain ⟨j, hj, rfl⟩ := den_mp hy
        rw [h1] at hj; cases hj
        split at h
        · rename_i _ _ q v' hp hf
          obtain ⟨q', g1, g2⟩ := findV_ok h2 hf
          rcases g2 with ⟨g3, -⟩ | ⟨j', v2, x2, g3, rfl, g5⟩
          · cases g3
          cases g3
          cases h
          cases ok with
          | true =>
            refine ⟨.tuple ⟨[x2, .bool true]⟩, by simp only [den, denL, g5], by rw [ho]; rfl, fun a w X ha s => ⟨w, s, .inl ?_⟩⟩
            simp [execOp, ho, ha.eval hx, ha.eval hi, Instr.lookup, run_und hu, getObj, Sem.run, h3 w X s, checkKey_ok hd hp, Instr.findKey, run_und hd, g1]
          | false =>
            refine ⟨x2, g5, by rw [ho]; rfl, fun a w X ha s => ⟨w, s, .inl ?_⟩⟩
            simp [execOp, ho, ha.eval hx, ha.eval hi, Instr.lookup, run_und hu, getObj, Sem.run, h3 w X s, checkKey_ok hd hp, Instr.findKey, run_und hd, g1]
        · rename_i hp hf
          split at h
          · rename_i zv hzv
            obtain ⟨q', g1, g2⟩ := findV_ok h2 hf
            rcases g2 with ⟨-, rfl⟩ | ⟨j', v2, x2, g3, -, -⟩
            rotate_left
            · cases g3
            cases h
            cases ok with
            | true =>
              refine ⟨.tuple ⟨[zv, .bool false]⟩, by simp only [den, denL], by rw [ho]; rfl, fun a w X ha s => ⟨w, s, .inl ?_⟩⟩
              simp [execOp, ho, ha.eval hx, ha.eval hi, Instr.lookup, run_und hu, getObj, Sem.run, h3 w X s, checkKey_ok hd hp, Instr.findKey, run_und hd, g1, zeroV_run hzv]
            | false =>
              refine ⟨zv, rfl, by rw [ho]; rfl, fun a w X ha s => ⟨w, s, .inl ?_⟩⟩
              simp [execOp, ho, ha.eval hx, ha.eval hi, Instr.lookup, run_und hu, getObj, Sem.run, h3 w X s, checkKey_ok hd hp, Instr.findKey, run_und hd, g1, zeroV_run hzv]
          · cases h
        · cases h
      · cases h
    · rename_i kt et es hu hg
      split at h
      · rename_i d hd
        obtain ⟨i, r, h1, h2, hpm, h3⟩ := tab_at hH hsub hg
        obtain ⟨j, hj, rfl⟩ := den_mp hy
        rw [h1] at hj; cases hj
        split at h
        · rename_i v' hp hf
          obtain ⟨q', g1, g2⟩ := findT_ok h2 hpm hf
          rcases g2 with ⟨g3, -⟩ | ⟨j', v2, x2, g3, rfl, g5⟩
          · cases g3
          cases g3
          cases h
          cases ok with
          | true =>
            refine ⟨.tuple ⟨[x2, .bool true]⟩, by simp only [den, denL, g5], by rw [ho]; rfl, fun a w X ha s => ⟨w, s, .inl ?_⟩⟩
            simp [execOp, ho, ha.eval hx, ha.eval hi, Instr.lookup, run_und hu, getObj, Sem.run, h3 w X s, checkKey_ok hd hp, Instr.findKey, run_und hd, g1]
          | false =>
            refine ⟨x2, g5, by rw [ho]; rfl, fun a w X ha s => ⟨w, s, .inl ?_⟩⟩
            simp [execOp, ho, ha.eval hx, ha.eval hi, Instr.lookup, run_und hu, getObj, Sem.run, h3 w X s, checkKey_ok hd hp, Instr.findKey, run_und hd, g1]
        · rename_i hp hf
          split at h
          · rename_i zv hzv
            obtain ⟨q', g1, g2⟩ := findT_ok h2 hpm hf
            rcases g2 with ⟨-, rfl⟩ | ⟨j', v2, x2, g3, -, -⟩
            rotate_left
            · cases g3
            cases h
            cases ok with
            | true =>
              refine ⟨.tuple ⟨[zv, .bool false]⟩, by simp only [den, denL], by rw [ho]; rfl, fun a w X ha s => ⟨w, s, .inl ?_⟩⟩
              simp [execOp, ho, ha.eval hx, ha.eval hi, Instr.lookup, run_und hu, getObj, Sem.run, h3 w X s, checkKey_ok hd hp, Instr.findKey, run_und hd, g1, zeroV_run hzv]
            | false =>
              refine ⟨zv, rfl, by rw [ho]; rfl, fun a w X ha s => ⟨w, s, .inl ?_⟩⟩
              simp [execOp, ho, ha.eval hx, ha.eval hi, Instr.lookup, run_und hu, getObj, Sem.run, h3 w X s, checkKey_ok hd hp, Instr.findKey, run_und hd, g1, zeroV_run hzv]
          · cases h
        · cases h
      · cases h
    · cases h
  · cases h

/-! ### Is it nil? -/
def nilV (P : Program) (t : TypeId) : VV → VV → Option Bool
  | .ptr _ _, .lit (.pointer none) | .lit (.pointer none), .ptr _ _ => match P.underlying t with | some (.pointer _) => some false | _ => none
  | .slc _ _ _ _, .lit (.slice none _ _) | .lit (.slice none _ _), .slc _ _ _ _ => match P.underlying t with | some (.slice _) => some false | _ => none
  | .tl _ _ _ _ _, .lit (.slice none _ _) | .lit (.slice none _ _), .tl _ _ _ _ _ => match P.underlying t with | some (.slice _) => some false | _ => none
  | .mp _, .lit (.map none) | .lit (.map none), .mp _ => match P.underlying t with | some (.map _ _) => some false | _ => none
  | .fn _ _ _, .lit .nilFunc | .lit .nilFunc, .fn _ _ _ => match P.underlying t with | some (.func _ _ _) => some false | _ => none
  | .ifc _ _, .lit .nilIface | .lit .nilIface, .ifc _ _ => match P.underlying t with | some (.interface _) => some false | _ => none
  | _, _ => none
theorem nilV_run {t : TypeId} {u w : VV} {y z : Value} {r : Bool} (hy : den ρ u = some y) (hz : den ρ w = some z) (h : nilV P t u w = some r) (op : BinOp) (x1 x2 : Operand) (W : World) :
    (eqGuard op t x1 x2 y z).run P W = .ok () W ∧ (Op.equal t y z).run P W = .ok r W ∧ (binOp .eql t y z = (do pure (.bool (← Op.equal t y z)))) ∧ (binOp .neq t y z = (do pure (.bool (!(← Op.equal t y z))))) := by
  have hd : Op.maxDepth = 9999 + 1 := rfl
  unfold nilV at h
  split at h
  all_goals
    first
      | cases h
      | skip
  all_goals
    split at h
    case h_2 => cases h
    rename_i hu
    cases h
  all_goals
    first
      | (obtain ⟨i, hi, rfl⟩ := den_ptr hy; cases hz)
      | (cases hy; obtain ⟨i, hi, rfl⟩ := den_ptr hz)
      | (obtain ⟨i, hi, -, rfl⟩ := den_slc hy; cases hz)
      | (cases hy; obtain ⟨i, hi, -, rfl⟩ := den_slc hz)
      | (obtain ⟨i, hi, -, rfl⟩ := den_tl hy; cases hz)
      | (cases hy; obtain ⟨i, hi, -, rfl⟩ := den_tl hz)
      | (obtain ⟨i, hi, rfl⟩ := den_mp hy; cases hz)
      | (cases hy; obtain ⟨i, hi, rfl⟩ := den_mp hz)
      | (obtain ⟨xs, ys, -, -, rfl⟩ := den_fn hy; cases hz)
      | (cases hy; obtain ⟨xs, ys, -, -, rfl⟩ := den_fn hz)
      | (obtain ⟨y', -, rfl⟩ := den_ifc hy; cases hz)
      | (cases hy; obtain ⟨y', -, rfl⟩ := den_ifc hz)
  all_goals
    refine ⟨?_, ?_, rfl, rfl⟩
    · unfold eqGuard; cases op <;> simp
    · unfold Op.equal; rw [hd]; unfold Op.equalIn; simp [run_und hu]
def eqlV (P : Program) (E : VE) (op : BinOp) (t : TypeId) (x y : Operand) : Option VV := match op with
  | .eql => match evV E x, evV E y with
    | some u, some w => match nilV P t u w with
      | some b => some (.lit (.bool b))
      | none => none
    | _, _ => none
  | .neq => match evV E x, evV E y with
    | some u, some w => match nilV P t u w with
      | some b => some (.lit (.bool (!b)))
      | none => none
    | _, _ => none
  | _ => none
theorem eqlV_ok {op : BinOp} {t t2 : TypeId} {x y : Operand} {v : VV} (he : denEnv ρ E = some env) (ho : o.op = .binOp op t x y t2) (h : eqlV P E op t x y = some v) : ∃ r, den ρ v = some r ∧ OpV P hs n o env r := by
  unfold eqlV at h
  split at h
  · split at h
    · rename_i u w h1 h2
      split at h
      · rename_i b hb
        cases h
        obtain ⟨y1, g1, g2⟩ := evV_den he h1
        obtain ⟨y2, g3, g4⟩ := evV_den he h2
        refine ⟨_, rfl, opv_run (by rw [ho]; rfl) fun a W ha => ?_⟩
        obtain ⟨q1, q2, q3, -⟩ := nilV_run g2 g4 hb .eql x y W
        simp only [execOp, ho, ha.eval g1, ha.eval g3, q3]
        simp [q1, q2]
      · cases h
    · cases h
  · split at h
    · rename_i u w h1 h2
      split at h
      · rename_i b hb
        cases h
        obtain ⟨y1, g1, g2⟩ := evV_den he h1
        obtain ⟨y2, g3, g4⟩ := evV_den he h2
        refine ⟨_, rfl, opv_run (by rw [ho]; rfl) fun a W ha => ?_⟩
        obtain ⟨q1, q2, -, q4⟩ := nilV_run g2 g4 hb .neq x y W
        simp only [execOp, ho, ha.eval g1, ha.eval g3, q4]
        simp [q1, q2]
      · cases h
    · cases h
  · cases h
end
end
end Go.SL
