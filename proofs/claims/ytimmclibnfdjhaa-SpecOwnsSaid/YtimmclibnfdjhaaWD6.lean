/- The document's automaton: its state as it is laid; which calls are wrong; who waits the longest. -/
import Derived.Test.YtimmclibnfdjhaaWB2
import Derived.Test.YtimmclibnfdjhaaSlG9
import Derived.Test.YtimmclibnfdjhaaWB5
set_option linter.unusedVariables false
set_option linter.unusedSimpArgs false
set_option linter.unusedSectionVars false
section
namespace Go.Proofs.Ytimmclibnfdjhaa
open Go.SL
set_option maxRecDepth 100000
set_option maxHeartbeats 16000000
attribute [local irreducible] SL.T PFn OpV SOL SWP HOp ChU
/-- A thread of the document's. -/
structure DT where
  calls : Int
  opn : Bool
  op : Int
  obj : Int
  arg : Int
  far : Int
  code : Int
  val : Int
  flag : Bool
  saved : Int
  since : Int
abbrev dcells (t : DT) : List Value := [i64 t.calls, .bool t.opn, i64 t.op, i64 t.obj, i64 t.arg, i64 t.far, i64 t.code, i64 t.val, .bool t.flag, i64 t.saved, i64 t.since]
def dts (l : List DT) : List Value := (l.map dcells).flatten
theorem dts_length : ∀ (l : List DT), (dts l).length = l.length * 11
  | [] => rfl
  | e :: es => by
    have := dts_length es
    simp only [dts, List.map_cons, List.flatten_cons, List.length_append, List.length_cons] at this ⊢
    rw [this]; simp; omega
theorem dts_at : ∀ {l : List DT} {j : Nat} {e : DT}, l[j]? = some e → ∀ (i : Nat) (v : Value), (dcells e)[i]? = some v → (dts l)[j * 11 + i]? = some v
  | x :: l, 0, e, h, i, v, hv => by
    simp at h; subst h
    rw [Nat.zero_mul, Nat.zero_add]
    have hi : i < (dcells x).length := (List.getElem?_eq_some_iff.1 hv).1
    show (dcells x ++ (l.map dcells).flatten)[i]? = _
    rw [List.getElem?_append_left hi]; exact hv
  | x :: l, j + 1, e, h, i, v, hv => by
    have ih := dts_at (l := l) (j := j) (e := e) (by simpa using h) i v hv
    show (dcells x ++ (l.map dcells).flatten)[(j + 1) * 11 + i]? = _
    rw [List.getElem?_append_right (by simp; omega)]
    rw [← ih]; congr 1; simp; omega
/-- The document's automaton. -/
structure DS where
  ow : List Int
  dp : List Int
  th : List DT
  rel : Int
abbrev specD (βd : Nat) (b1 b2 b3 : Option Addr) (n k c1 c2 c3 : Nat) (rel : Int) : Heap := blk βd (.cells ⟨[.slice b1 k c1, .slice b2 k c2, .slice b3 n c3, i64 rel]⟩ 107 (0, 0))
section
variable {βd : Nat} {b1 b2 b3 : Option Addr} {n k c1 c2 c3 : Nat} {rel : Int}
theorem dwrong_calls (op obj arg : Int) : PFn Try.prog 55 [ptr βd, .agg ⟨[i64 op, i64 obj, i64 arg]⟩] [specD βd b1 b2 b3 n k c1 c2 c3 rel] (.bool (decide (wrongB n k op obj arg))) := by
  refine pure_of_body Try.func55 rfl (Nat.le_of_ble_eq_true rfl) fun F => ?_
  repeat' (first
    | refine swp_seq ?_
    | (refine gk 0 rfl ?_; first | refine sl_op rfl rfl rfl (by first | exact opv_move rfl rfl | exact opv_assign rfl rfl | exact opv_pick_t rfl rfl rfl | exact opv_pick_f rfl rfl rfl ) ?_ | refine sl_pass rfl rfl rfl rfl ?_)
    | (refine gk 2 rfl ?_; first | refine sl_pass rfl rfl rfl rfl ?_ | refine sl_if rfl rfl rfl (by first | exact opv_lss rfl rfl rfl | exact opv_geq rfl rfl rfl | exact opv_eql rfl rfl rfl ) (fun h => ?_) (fun h => ?_) )
    | (refine gk 3 rfl ?_; first | refine sl_op rfl rfl rfl (by first | exact opv_load rfl (by exact rfl) rfl (by exact rfl) | exact opv_fieldAddr rfl rfl ) ?_ | refine sl_pass rfl rfl rfl rfl ?_)
    | (refine gk 4 rfl ?_; first | refine sl_pass rfl rfl rfl rfl ?_ | refine sl_op rfl rfl rfl (by first | exact opv_len rfl rfl rfl rfl rfl ) ?_)
    | (refine gk 5 rfl ?_; first | refine sl_op rfl rfl rfl (by first | exact opv_nilCheck rfl rfl ) ?_ | refine sl_pass rfl rfl rfl rfl ?_ | refine sl_box rfl rfl rfl rfl rfl rfl (fun β => ?_) )
    | refine sl_region rfl ?_
    | refine sl_draw (by kernel_rfl) (by kernel_rfl) rfl ?_
    | refine sl_nil ?_
    | refine thn_k ?_
    | refine swp_ret ?_
    )
  all_goals
    refine end_pure (resOk_one (resV_tmp rfl)) ?_
    refine congrArg Value.bool ?_
    symm
    first | exact decide_eq_true (by unfold wrongB; omega) | exact decide_eq_false (by unfold wrongB; omega)
def waitsD (o : Int) (t : DT) : Bool := t.opn && decide (t.obj = o) && decide (t.far = 2)
def sinceD (th : List DT) (u : Nat) : Int := match th[u]? with
  | some t => t.since
  | none => 0
def dlongG (th : List DT) (o : Int) : List DT → Nat → Int → Int
  | [], _, best => best
  | t :: ts, u, best => dlongG th o ts (u + 1) (if waitsD o t = true ∧ (best < 0 ∨ t.since < sinceD th best.toNat) then (u : Int) else best)
def dlong (th : List DT) (o : Int) : Int := dlongG th o th 0 (-1)
structure DL where
  u : Nat
  best : Int
theorem dlong_calls (o : Int) (HT : Heap) (th : List DT) [slT : Sl HT b3 (dts th)] [nn : NN b3] (hn : th.length = n) (hsm : n ≤ 1000000) :
    PFn Try.prog 66 [ptr βd, i64 o] [specD βd b1 b2 b3 n k c1 c2 c3 rel, HT] (i64 (dlong th o)) := by
  have hl := dts_length th
  refine pure_of_body Try.func66 rfl (Nat.le_of_ble_eq_true rfl) fun F => ?_
  repeat' (first
    | refine swp_seq ?_
    | (refine gk 0 rfl ?_; first | refine sl_op rfl rfl rfl (by first | exact opv_assign rfl rfl ) ?_ )
    | refine sl_region rfl ?_
    | refine sl_nil ?_
    | refine thn_k ?_
    | refine swp_block ?_
    )
  refine swp_loopS (fun s : DL => [(0, ptr βd), (1, i64 o), (5, i64 s.best), (6, i64 (s.u : Int))])
    (fun s => [specD βd b1 b2 b3 n k c1 c2 c3 rel, HT])
    (fun s => s.u ≤ n ∧ (s.best = -1 ∨ ∃ v : Nat, v < n ∧ s.best = (v : Int)) ∧ dlong th o = dlongG th o (th.drop s.u) s.u s.best)
    (fun s => n - s.u) ⟨0, -1⟩ (by repeat first | exact Sub.nil _ | refine Sub.cons rfl ?_) ⟨Nat.zero_le _, .inl rfl, rfl⟩ ?_
  rintro ⟨u, best⟩ ⟨hu, hb, hF⟩
  dsimp only at hu hb hF ⊢
  by_cases hu2 : u < n
  · obtain ⟨t, ht⟩ : ∃ z, th[u]? = some z := ⟨_, List.getElem?_eq_getElem (by omega)⟩
    have hd : th.drop u = t :: th.drop (u + 1) := by
      rw [List.drop_eq_getElem_cons (by omega)]
      rw [(List.getElem?_eq_some_iff.1 ht).2]
    rw [hd, dlongG] at hF
    have hta := dts_at ht
    have hul : ((u : Nat) : Int).toNat * 11 < (dts th).length := by simp; omega
    have a1 : (dts th)[((u : Nat) : Int).toNat * 11 + 1]? = some (.bool t.opn) := hta 1 _ rfl
    have a3 : (dts th)[((u : Nat) : Int).toNat * 11 + 2 + 1]? = some (i64 t.obj) := hta 3 _ rfl
    have a5 : (dts th)[((u : Nat) : Int).toNat * 11 + 5]? = some (i64 t.far) := hta 5 _ rfl
    have a10 : (dts th)[((u : Nat) : Int).toNat * 11 + 10]? = some (i64 t.since) := hta 10 _ rfl
    have nx : ∀ b' : Int, (b' = best ∨ b' = (u : Int)) → (if waitsD o t = true ∧ (best < 0 ∨ t.since < sinceD th best.toNat) then (u : Int) else best) = b' → (u + 1 ≤ n ∧ (b' = -1 ∨ ∃ v : Nat, v < n ∧ b' = (v : Int)) ∧ dlong th o = dlongG th o (th.drop (u + 1)) (u + 1) b') := fun b' h1 h2 => by
      rw [h2] at hF
      refine ⟨hu2, ?_, hF⟩
      rcases h1 with rfl | rfl
      · exact hb
      · exact .inr ⟨u, hu2, rfl⟩
    cases hop : t.opn with
    | false =>
      rw [hop] at a1
      repeat' (first
        | refine swp_seq ?_
        | (refine gk 0 rfl ?_; first | refine sl_op rfl rfl rfl (by first | exact opv_move rfl rfl | exact opv_assign rfl rfl | exact opv_pick_f rfl rfl rfl ) ?_ | refine sl_pass rfl rfl rfl rfl ?_)
        | (refine gk 1 rfl ?_; first | refine sl_op rfl rfl rfl (by first | exact opv_add64 rfl rfl rfl (by omega) (by omega) ) ?_ )
        | (refine gk 2 rfl ?_; first | refine sl_pass rfl rfl rfl rfl ?_ | refine sl_yes rfl rfl rfl (by first | exact opv_lss rfl rfl rfl ) (by first | omega ) ?_ )
        | (refine gk 3 rfl ?_; first | refine sl_op rfl rfl rfl (by first | exact opv_load rfl (by exact rfl) rfl (by exact rfl) | exact opv_fieldAddr rfl rfl | exact opv_indexAddrI rfl rfl rfl (by omega) (by omega) (by first | omega ) | exact opv_fieldAddrE rfl rfl (by first | assumption ) | exact opv_loadEx rfl (by exact rfl) (by infer_instance) (by first | assumption ) ) ?_ | refine sl_pass rfl rfl rfl rfl ?_)
        | (refine gk 4 rfl ?_; first | refine sl_op rfl rfl rfl (by first | exact opv_len rfl rfl rfl rfl rfl ) ?_)
        | (refine gk 5 rfl ?_; first | refine sl_op rfl rfl rfl (by first | exact opv_nilCheck rfl rfl ) ?_ | refine sl_pass rfl rfl rfl rfl ?_ )
        | refine sl_region rfl ?_
        | refine sl_draw (by kernel_rfl) (by kernel_rfl) rfl ?_
        | refine sl_nil ?_
        | refine thn_k ?_
        | refine swp_true rfl ?_
        | refine swp_false rfl ?_
        | refine swp_block ?_
        | refine swp_skip ?_
        )
      exact ⟨rfl, ⟨u + 1, best⟩, next_ok (by repeat first | exact Sub.nil _ | refine Sub.cons rfl ?_), nx best (.inl rfl) (if_neg (by simp [waitsD, hop])), by dsimp only; omega⟩
    | true =>
      rw [hop] at a1
      by_cases hob : t.obj = o
      · by_cases hfa : t.far = 2
        · have hw : waitsD o t = true := by simp [waitsD, hop, hob, hfa]
          rcases hb with rfl | ⟨v, hv, rfl⟩
          · repeat' (first
              | refine swp_seq ?_
              | (refine gk 0 rfl ?_; first | refine sl_op rfl rfl rfl (by first | exact opv_move rfl rfl | exact opv_assign rfl rfl | exact opv_pick_t rfl rfl rfl ) ?_ | refine sl_pass rfl rfl rfl rfl ?_)
              | (refine gk 1 rfl ?_; first | refine sl_op rfl rfl rfl (by first | exact opv_add64 rfl rfl rfl (by omega) (by omega) ) ?_ )
              | (refine gk 2 rfl ?_; first | refine sl_pass rfl rfl rfl rfl ?_ | refine sl_yes rfl rfl rfl (by first | exact opv_lss rfl rfl rfl | exact opv_eql rfl rfl rfl ) (by first | omega ) ?_ )
              | (refine gk 3 rfl ?_; first | refine sl_op rfl rfl rfl (by first | exact opv_load rfl (by exact rfl) rfl (by exact rfl) | exact opv_fieldAddr rfl rfl | exact opv_indexAddrI rfl rfl rfl (by omega) (by omega) (by first | omega ) | exact opv_fieldAddrE rfl rfl (by first | assumption | omega) | exact opv_loadEx rfl (by exact rfl) (by infer_instance) (by first | assumption ) ) ?_ | refine sl_pass rfl rfl rfl rfl ?_)
              | (refine gk 4 rfl ?_; first | refine sl_op rfl rfl rfl (by first | exact opv_len rfl rfl rfl rfl rfl ) ?_)
              | (refine gk 5 rfl ?_; first | refine sl_op rfl rfl rfl (by first | exact opv_nilCheck rfl rfl ) ?_ | refine sl_pass rfl rfl rfl rfl ?_ )
              | refine sl_region rfl ?_
              | refine sl_draw (by kernel_rfl) (by kernel_rfl) rfl ?_
              | refine sl_nil ?_
              | refine thn_k ?_
              | refine swp_true rfl ?_
              | refine swp_block ?_
              | refine swp_skip ?_
              )
            exact ⟨rfl, ⟨u + 1, (u : Int)⟩, next_ok (by repeat first | exact Sub.nil _ | refine Sub.cons rfl ?_), nx _ (.inr rfl) (if_pos ⟨hw, .inl (by omega)⟩), by dsimp only; omega⟩
          · obtain ⟨x, hx⟩ : ∃ z, th[v]? = some z := ⟨_, List.getElem?_eq_getElem (by omega)⟩
            have b10 : (dts th)[((v : Nat) : Int).toNat * 11 + 10]? = some (i64 x.since) := dts_at hx 10 _ rfl
            have hvl : ((v : Nat) : Int).toNat * 11 < (dts th).length := by simp; omega
            have hs : sinceD th ((v : Nat) : Int).toNat = x.since := by simp [sinceD, hx]
            by_cases hlt : t.since < x.since
            · repeat' (first
                | refine swp_seq ?_
                | (refine gk 0 rfl ?_; first | refine sl_op rfl rfl rfl (by first | exact opv_move rfl rfl | exact opv_assign rfl rfl | exact opv_pick_t rfl rfl rfl | exact opv_pick_f rfl rfl rfl ) ?_ )
                | (refine gk 1 rfl ?_; first | refine sl_op rfl rfl rfl (by first | exact opv_add64 rfl rfl rfl (by omega) (by omega) ) ?_ )
                | (refine gk 2 rfl ?_; first | refine sl_yes rfl rfl rfl (by first | exact opv_lss rfl rfl rfl | exact opv_eql rfl rfl rfl ) (by first | omega ) ?_ | refine sl_no rfl rfl rfl (by first | exact opv_lss rfl rfl rfl ) (by first | omega ) ?_ )
                | (refine gk 3 rfl ?_; first | refine sl_op rfl rfl rfl (by first | exact opv_load rfl (by exact rfl) rfl (by exact rfl) | exact opv_fieldAddr rfl rfl | exact opv_indexAddrI rfl rfl rfl (by omega) (by omega) (by first | omega ) | exact opv_fieldAddrE rfl rfl (by first | assumption | omega) | exact opv_loadEx rfl (by exact rfl) (by infer_instance) (by first | assumption ) ) ?_ )
                | (refine gk 4 rfl ?_; first | refine sl_op rfl rfl rfl (by first | exact opv_len rfl rfl rfl rfl rfl ) ?_)
                | (refine gk 5 rfl ?_; first | refine sl_op rfl rfl rfl (by first | exact opv_nilCheck rfl rfl ) ?_ )
                | refine sl_region rfl ?_
                | refine sl_draw (by kernel_rfl) (by kernel_rfl) rfl ?_
                | refine sl_nil ?_
                | refine thn_k ?_
                | refine swp_true rfl ?_
                | refine swp_block ?_
                | refine swp_skip ?_
                )
              exact ⟨rfl, ⟨u + 1, (u : Int)⟩, next_ok (by repeat first | exact Sub.nil _ | refine Sub.cons rfl ?_), nx _ (.inr rfl) (if_pos ⟨hw, .inr (by rw [hs]; exact hlt)⟩), by dsimp only; omega⟩
            · repeat' (first
                | refine swp_seq ?_
                | (refine gk 0 rfl ?_; first | refine sl_op rfl rfl rfl (by first | exact opv_move rfl rfl | exact opv_assign rfl rfl | exact opv_pick_t rfl rfl rfl | exact opv_pick_f rfl rfl rfl ) ?_ )
                | (refine gk 1 rfl ?_; first | refine sl_op rfl rfl rfl (by first | exact opv_add64 rfl rfl rfl (by omega) (by omega) ) ?_ )
                | (refine gk 2 rfl ?_; first | refine sl_yes rfl rfl rfl (by first | exact opv_lss rfl rfl rfl | exact opv_eql rfl rfl rfl ) (by first | omega ) ?_ | refine sl_no rfl rfl rfl (by first | exact opv_lss rfl rfl rfl ) (by first | omega ) ?_ )
                | (refine gk 3 rfl ?_; first | refine sl_op rfl rfl rfl (by first | exact opv_load rfl (by exact rfl) rfl (by exact rfl) | exact opv_fieldAddr rfl rfl | exact opv_indexAddrI rfl rfl rfl (by omega) (by omega) (by first | omega ) | exact opv_fieldAddrE rfl rfl (by first | assumption | omega) | exact opv_loadEx rfl (by exact rfl) (by infer_instance) (by first | assumption ) ) ?_ )
                | (refine gk 4 rfl ?_; first | refine sl_op rfl rfl rfl (by first | exact opv_len rfl rfl rfl rfl rfl ) ?_)
                | (refine gk 5 rfl ?_; first | refine sl_op rfl rfl rfl (by first | exact opv_nilCheck rfl rfl ) ?_ )
                | refine sl_region rfl ?_
                | refine sl_draw (by kernel_rfl) (by kernel_rfl) rfl ?_
                | refine sl_nil ?_
                | refine thn_k ?_
                | refine swp_true rfl ?_
                | refine swp_false rfl ?_
                | refine swp_block ?_
                | refine swp_skip ?_
                )
              exact ⟨rfl, ⟨u + 1, (v : Int)⟩, next_ok (by repeat first | exact Sub.nil _ | refine Sub.cons rfl ?_), nx _ (.inl rfl) (if_neg (by rw [hs]; omega)), by dsimp only; omega⟩
        · repeat' (first
            | refine swp_seq ?_
            | (refine gk 0 rfl ?_; first | refine sl_op rfl rfl rfl (by first | exact opv_move rfl rfl | exact opv_assign rfl rfl | exact opv_pick_t rfl rfl rfl | exact opv_pick_f rfl rfl rfl ) ?_ | refine sl_pass rfl rfl rfl rfl ?_)
            | (refine gk 1 rfl ?_; first | refine sl_op rfl rfl rfl (by first | exact opv_add64 rfl rfl rfl (by omega) (by omega) ) ?_ )
            | (refine gk 2 rfl ?_; first | refine sl_pass rfl rfl rfl rfl ?_ | refine sl_yes rfl rfl rfl (by first | exact opv_lss rfl rfl rfl | exact opv_eql rfl rfl rfl ) (by first | omega ) ?_ | refine sl_no rfl rfl rfl (by first | exact opv_eql rfl rfl rfl ) (by first | omega ) ?_ )
            | (refine gk 3 rfl ?_; first | refine sl_op rfl rfl rfl (by first | exact opv_load rfl (by exact rfl) rfl (by exact rfl) | exact opv_fieldAddr rfl rfl | exact opv_indexAddrI rfl rfl rfl (by omega) (by omega) (by first | omega ) | exact opv_fieldAddrE rfl rfl (by first | assumption | omega) | exact opv_loadEx rfl (by exact rfl) (by infer_instance) (by first | assumption ) ) ?_ | refine sl_pass rfl rfl rfl rfl ?_)
            | (refine gk 4 rfl ?_; first | refine sl_op rfl rfl rfl (by first | exact opv_len rfl rfl rfl rfl rfl ) ?_)
            | (refine gk 5 rfl ?_; first | refine sl_op rfl rfl rfl (by first | exact opv_nilCheck rfl rfl ) ?_ | refine sl_pass rfl rfl rfl rfl ?_ )
            | refine sl_region rfl ?_
            | refine sl_draw (by kernel_rfl) (by kernel_rfl) rfl ?_
            | refine sl_nil ?_
            | refine thn_k ?_
            | refine swp_true rfl ?_
            | refine swp_false rfl ?_
            | refine swp_block ?_
            | refine swp_skip ?_
            )
          exact ⟨rfl, ⟨u + 1, best⟩, next_ok (by repeat first | exact Sub.nil _ | refine Sub.cons rfl ?_), nx best (.inl rfl) (if_neg (by simp [waitsD, hfa])), by dsimp only; omega⟩
      · repeat' (first
          | refine swp_seq ?_
          | (refine gk 0 rfl ?_; first | refine sl_op rfl rfl rfl (by first | exact opv_move rfl rfl | exact opv_assign rfl rfl | exact opv_pick_t rfl rfl rfl | exact opv_pick_f rfl rfl rfl ) ?_ | refine sl_pass rfl rfl rfl rfl ?_)
          | (refine gk 1 rfl ?_; first | refine sl_op rfl rfl rfl (by first | exact opv_add64 rfl rfl rfl (by omega) (by omega) ) ?_ )
          | (refine gk 2 rfl ?_; first | refine sl_pass rfl rfl rfl rfl ?_ | refine sl_yes rfl rfl rfl (by first | exact opv_lss rfl rfl rfl | exact opv_eql rfl rfl rfl ) (by first | omega ) ?_ | refine sl_no rfl rfl rfl (by first | exact opv_eql rfl rfl rfl ) (by first | omega ) ?_ )
          | (refine gk 3 rfl ?_; first | refine sl_op rfl rfl rfl (by first | exact opv_load rfl (by exact rfl) rfl (by exact rfl) | exact opv_fieldAddr rfl rfl | exact opv_indexAddrI rfl rfl rfl (by omega) (by omega) (by first | omega ) | exact opv_fieldAddrE rfl rfl (by first | assumption | omega) | exact opv_loadEx rfl (by exact rfl) (by infer_instance) (by first | assumption ) ) ?_ | refine sl_pass rfl rfl rfl rfl ?_)
          | (refine gk 4 rfl ?_; first | refine sl_op rfl rfl rfl (by first | exact opv_len rfl rfl rfl rfl rfl ) ?_)
          | (refine gk 5 rfl ?_; first | refine sl_op rfl rfl rfl (by first | exact opv_nilCheck rfl rfl ) ?_ | refine sl_pass rfl rfl rfl rfl ?_ )
          | refine sl_region rfl ?_
          | refine sl_draw (by kernel_rfl) (by kernel_rfl) rfl ?_
          | refine sl_nil ?_
          | refine thn_k ?_
          | refine swp_true rfl ?_
          | refine swp_false rfl ?_
          | refine swp_block ?_
          | refine swp_skip ?_
          )
        exact ⟨rfl, ⟨u + 1, best⟩, next_ok (by repeat first | exact Sub.nil _ | refine Sub.cons rfl ?_), nx best (.inl rfl) (if_neg (by simp [waitsD, hob])), by dsimp only; omega⟩
  · rw [List.drop_eq_nil_of_le (by omega), dlongG] at hF
    repeat' (first
      | refine swp_seq ?_
      | (refine gk 0 rfl ?_; first | refine sl_op rfl rfl rfl (by first | exact opv_move rfl rfl | exact opv_assign rfl rfl ) ?_ )
      | (refine gk 2 rfl ?_; first | refine sl_no rfl rfl rfl (by first | exact opv_lss rfl rfl rfl ) (by first | omega ) ?_ )
      | (refine gk 3 rfl ?_; first | refine sl_op rfl rfl rfl (by first | exact opv_load rfl (by exact rfl) rfl (by exact rfl) | exact opv_fieldAddr rfl rfl ) ?_ )
      | (refine gk 4 rfl ?_; first | refine sl_op rfl rfl rfl (by first | exact opv_len rfl rfl rfl rfl rfl ) ?_)
      | (refine gk 5 rfl ?_; first | refine sl_op rfl rfl rfl (by first | exact opv_nilCheck rfl rfl ) ?_ )
      | refine sl_region rfl ?_
      | refine sl_nil ?_
      | refine thn_k ?_
      | refine swp_false rfl ?_
      | refine swp_ret ?_
      | refine swp_exit ?_
      )
    refine end_pure (resOk_one (resV_tmp rfl)) ?_
    rw [hF]
end
end Go.Proofs.Ytimmclibnfdjhaa
end
section
/- The document's automaton: what is put into a thread; a call that is finished. -/
namespace Go.Proofs.Ytimmclibnfdjhaa
open Go.SL
set_option maxRecDepth 100000
set_option maxHeartbeats 16000000
attribute [local irreducible] SL.T PFn OpV SOL SWP HOp ChU
theorem flat_set {w : Nat} : ∀ {L : List (List Value)} {k : Nat} {c c' vs : List Value} {i : Nat}, (∀ r ∈ L, r.length = w) → L[k]? = some c → i + vs.length ≤ w → c.take i ++ vs ++ c.drop (i + vs.length) = c' →
    L.flatten.take (k * w + i) ++ vs ++ L.flatten.drop (k * w + i + vs.length) = (L.set k c').flatten
  | x :: L, 0, c, c', vs, i, hw, h, hi, e => by
    simp only [List.getElem?_cons_zero, Option.some.injEq] at h
    subst h
    have hx := hw x (List.mem_cons_self ..)
    rw [Nat.zero_mul, Nat.zero_add, List.set_cons_zero, List.flatten_cons, List.flatten_cons]
    rw [List.take_append_of_le_length (by omega), List.drop_append_of_le_length (by omega), ← e]
    simp only [List.append_assoc]
  | x :: L, k + 1, c, c', vs, i, hw, h, hi, e => by
    have ih := flat_set (L := L) (k := k) (c := c) (c' := c') (vs := vs) (i := i) (fun r hr => hw r (List.mem_cons_of_mem _ hr)) (by simpa using h) hi e
    have hx := hw x (List.mem_cons_self ..)
    rw [List.set_cons_succ, List.flatten_cons, List.flatten_cons, ← ih]
    have e1 : (k + 1) * w + i = x.length + (k * w + i) := by rw [hx, Nat.succ_mul]; omega
    rw [e1, Nat.add_assoc x.length, List.take_length_add_append, List.drop_length_add_append]
    simp only [List.append_assoc]
theorem dts_set {l : List DT} {k : Nat} {t t' : DT} {i : Nat} {vs : List Value} (h : l[k]? = some t) (hi : i + vs.length ≤ 11) (e : (dcells t).take i ++ vs ++ (dcells t).drop (i + vs.length) = dcells t') :
    (dts l).take (k * 11 + i) ++ vs ++ (dts l).drop (k * 11 + i + vs.length) = dts (l.set k t') := by
  unfold dts
  rw [List.map_set]
  refine flat_set ?_ (by rw [List.getElem?_map, h]; rfl) hi e
  intro r hr
  obtain ⟨x, -, rfl⟩ := List.mem_map.1 hr
  rfl
theorem set_at {l : List DT} {k : Nat} {t t' : DT} (h : l[k]? = some t) : (l.set k t')[k]? = some t' := List.getElem?_set_self (List.getElem?_eq_some_iff.1 h).1
def dfin (t : DT) (code val : Int) : DT := { t with far := 5, code := code, val := val }
section
variable {b3 : Option Addr} {n c3 : Nat}
theorem finish_calls {HT : Heap} {th : List DT} {k : Nat} {t : DT} (code val : Int) [nn : NN b3] (os : OS HT b3 n c3 109 11 (dts th)) (h : th[k]? = some t) :
    SL.T Try.prog 63 [ept b3 (k * 11), i64 code, i64 val] [HT] fun en w => en = .returned (.bool true) ∧ ∃ HT', w = [HT'] ∧ OS HT' b3 n c3 109 11 (dts (th.set k (dfin t code val))) := by
  haveI slT := os.sl
  have hl := dts_length th
  have hkl : k < th.length := (List.getElem?_eq_some_iff.1 h).1
  have s1 := dts_set (i := 5) (vs := [i64 5]) (t' := { t with far := 5 }) h (by decide) rfl
  have h2 := set_at (t' := { t with far := 5 }) h
  have hl2 := dts_length (th.set k { t with far := 5 })
  rw [List.length_set] at hl2
  have s2 := dts_set (i := 6) (vs := [i64 code, i64 val]) (t' := dfin t code val) h2 (by simp) rfl
  rw [List.set_set] at s2
  refine t_of_body Try.func63 rfl (Nat.le_of_ble_eq_true rfl) fun F => ?_
  repeat' (first
    | (refine sl_storeE rfl rfl rfl rfl rfl os rfl rfl rfl (Nat.succ_pos _) (by simp; omega) s1 (fun HT2 os2 => ?_); haveI slT2 := os2.sl)
    | refine sl_storeE rfl rfl rfl rfl rfl os2 rfl rfl rfl (Nat.succ_pos _) (by simp; omega) s2 (fun HT3 os3 => ?_)
    | refine swp_seq ?_
    | (refine gk 0 rfl ?_; first | refine sl_op rfl rfl rfl (by first | exact opv_move rfl rfl | exact opv_assign rfl rfl ) ?_ )
    | (refine gk 3 rfl ?_; first | refine sl_op rfl rfl rfl (by first | exact opv_fieldAddrE rfl rfl (by first | omega) ) ?_ )
    | (refine gk 5 rfl ?_; first | refine sl_op rfl rfl rfl (by first | exact opv_nilCheckE rfl rfl | exact opv_build rfl rfl (by exact rfl) ) ?_ )
    | refine sl_region rfl ?_
    | refine sl_nil ?_
    | refine thn_k ?_
    | refine swp_ret ?_
    )
  exact end_retL [HT3] (resOk_one (resV_tmp rfl)) ⟨rfl, HT3, rfl, os3⟩
end
end Go.Proofs.Ytimmclibnfdjhaa
end
section
/- The document's automaton: notifying. -/
namespace Go.Proofs.Ytimmclibnfdjhaa
open Go.SL
set_option maxRecDepth 100000
set_option maxHeartbeats 16000000
attribute [local irreducible] SL.T PFn OpV SOL SWP HOp ChU
theorem mod_set {l : List DT} {k : Nat} {t : DT} {f : DT → DT} (h : l[k]? = some t) : l.modify k f = l.set k (f t) := by
  apply List.ext_getElem?
  intro u
  rw [List.getElem?_modify, List.getElem?_set]
  by_cases e : k = u
  · subst e
    obtain ⟨hl, hk⟩ := List.getElem?_eq_some_iff.1 h
    simp [hl, hk]
  · simp [e]
abbrev wkD (y : DT) : DT := { y with far := 4, code := 0, val := 0 }
/-- Notifying, as the document says. -/
def notifyD (th : List DT) (t : Nat) (x : DT) (owns : Bool) (e : Ev) : Bool × List DT :=
  if e.act = 8 then (if owns = false ∧ x.far = 0 ∧ e.other = 4 then (true, th.modify t (dfin · 4 0)) else (false, th))
  else if e.act ≠ 3 ∨ owns = false ∨ e.other ≠ dlong th e.obj then (false, th)
  else if e.other < 0 then (true, th.modify t (dfin · 0 0))
  else if x.op = 4 then (true, (th.modify e.other.toNat wkD).modify t (dfin · 0 0))
  else (true, (th.modify e.other.toNat wkD).modify t fun y => { y with far := 1 })
theorem dlongG_mem (th : List DT) (o : Int) : ∀ (l : List DT) (u : Nat) (b : Int), dlongG th o l u b = b ∨ ∃ v : Nat, u ≤ v ∧ v < u + l.length ∧ dlongG th o l u b = (v : Int)
  | [], _, _ => .inl rfl
  | t :: l, u, b => by
    simp only [dlongG]
    rcases dlongG_mem th o l (u + 1) (if waitsD o t = true ∧ (b < 0 ∨ t.since < sinceD th b.toNat) then (u : Int) else b) with h | ⟨v, h1, h2, h3⟩
    · rw [h]
      split
      · exact .inr ⟨u, Nat.le_refl _, by simp, rfl⟩
      · exact .inl rfl
    · exact .inr ⟨v, by omega, by simp only [List.length_cons]; omega, h3⟩
theorem dlong_mem (th : List DT) (o : Int) : dlong th o = -1 ∨ ∃ v : Nat, v < th.length ∧ dlong th o = (v : Int) := by
  rcases dlongG_mem th o th 0 (-1) with h | ⟨v, -, h2, h3⟩
  · exact .inl h
  · exact .inr ⟨v, by omega, h3⟩
section
variable {βd : Nat} {b1 b2 b3 : Option Addr} {n k c1 c2 c3 : Nat} {rel : Int}
def NotD (βd : Nat) (b1 b2 b3 : Option Addr) (n k c1 c2 c3 : Nat) (rel : Int) (r : Bool × List DT) (en : Ending) (w : List Heap) : Prop :=
  en = .returned (.bool r.1) ∧ ∃ HT', w = [specD βd b1 b2 b3 n k c1 c2 c3 rel, HT'] ∧ OS HT' b3 n c3 109 11 (dts r.2)
theorem dnotify_calls {HT : Heap} {th : List DT} {t : Nat} {x : DT} (owns : Bool) (e : Ev) [nn : NN b3] (os : OS HT b3 n c3 109 11 (dts th)) (hn : th.length = n) (hsm : n ≤ 1000000) (h : th[t]? = some x) :
    SL.T Try.prog 64 [ptr βd, ept b3 (t * 11), .bool owns, .agg ⟨ecells e⟩] [specD βd b1 b2 b3 n k c1 c2 c3 rel, HT] (NotD βd b1 b2 b3 n k c1 c2 c3 rel (notifyD th t x owns e)) := by
  haveI slT := os.sl
  have hl := dts_length th
  have htl : t < th.length := (List.getElem?_eq_some_iff.1 h).1
  have hl1 : t * 11 < (dts th).length := by omega
  have a2 : (dts th)[t * 11 + 2 + 0]? = some (i64 x.op) := dts_at h 2 _ rfl
  have a5 : (dts th)[t * 11 + 5]? = some (i64 x.far) := dts_at h 5 _ rfl
  have fin : ∀ r, notifyD th t x owns e = r → SL.T Try.prog 64 [ptr βd, ept b3 (t * 11), .bool owns, .agg ⟨ecells e⟩] [specD βd b1 b2 b3 n k c1 c2 c3 rel, HT] (NotD βd b1 b2 b3 n k c1 c2 c3 rel r) → SL.T Try.prog 64 [ptr βd, ept b3 (t * 11), .bool owns, .agg ⟨ecells e⟩] [specD βd b1 b2 b3 n k c1 c2 c3 rel, HT] (NotD βd b1 b2 b3 n k c1 c2 c3 rel (notifyD th t x owns e)) := fun r e h => by rw [e]; exact h
  unfold NotD at fin ⊢
  have hlg := dlong_calls (βd := βd) (b1 := b1) (b2 := b2) (b3 := b3) (n := n) (k := k) (c1 := c1) (c2 := c2) (c3 := c3) (rel := rel) e.obj HT th hn hsm
  have hfi := fun c v => finish_calls c v os h
  by_cases h8 : e.act = 8
  · rcases (Bool.eq_false_or_eq_true owns).symm with howns | howns
    · by_cases hf0 : x.far = 0
      · by_cases ho : e.other = 4
        · refine fin (true, th.modify t (dfin · 4 0)) (by unfold notifyD; rw [if_pos h8, if_pos ⟨howns, hf0, ho⟩]) ?_
          subst howns
          have hfi4 := hfi 4 0
          rw [← mod_set (f := (dfin · 4 0)) h] at hfi4
          refine t_of_body Try.func64 rfl (Nat.le_of_ble_eq_true rfl) fun F => ?_
          repeat' (first
            | refine swp_seq ?_
            | (refine gk 0 rfl ?_; first | refine sl_op rfl rfl rfl (by first | exact opv_move rfl rfl | exact opv_assign rfl rfl | exact opv_pick_t rfl rfl rfl | exact opv_not_f rfl rfl ) ?_ )
            | (refine gk 2 rfl ?_; first | refine sl_yes rfl rfl rfl (by first | exact opv_eql rfl rfl rfl ) (by first | omega ) ?_ )
            | (refine gk 3 rfl ?_; first | refine sl_op rfl rfl rfl (by first | exact opv_load rfl (by exact rfl) rfl (by exact rfl) | exact opv_fieldAddr rfl rfl | exact opv_fieldAddrE rfl rfl (by first | assumption ) | exact opv_loadEx rfl (by exact rfl) (by infer_instance) (by first | assumption ) ) ?_ )
            | (refine gk 4 rfl ?_; first | (refine sl_callT rfl rfl rfl rfl rfl rfl rfl rfl (hfi4) ?_; rintro _ _ ⟨rfl, HT2, rfl, os2⟩; refine ⟨_, _, rfl, rfl, ?_⟩))
            | (refine gk 5 rfl ?_; first | refine sl_op rfl rfl rfl (by first | exact opv_nilCheckE rfl rfl ) ?_ | refine sl_box rfl rfl rfl rfl rfl rfl (fun β => ?_) )
            | refine sl_region rfl ?_
            | refine sl_nil ?_
            | refine thn_k ?_
            | refine swp_true rfl ?_
            | refine swp_ret ?_
            | refine thn_ret ?_
            )
          exact end_retL [specD βd b1 b2 b3 n k c1 c2 c3 rel, HT2] (resOk_one (resV_tmp rfl)) ⟨rfl, HT2, rfl, os2⟩
        · refine fin (false, th) (by unfold notifyD; rw [if_pos h8, if_neg (fun q => ho q.2.2)]) ?_
          subst howns
          refine t_of_body Try.func64 rfl (Nat.le_of_ble_eq_true rfl) fun F => ?_
          repeat' (first
            | refine swp_seq ?_
            | (refine gk 0 rfl ?_; first | refine sl_op rfl rfl rfl (by first | exact opv_move rfl rfl | exact opv_assign rfl rfl | exact opv_pick_t rfl rfl rfl | exact opv_pick_f rfl rfl rfl | exact opv_not_f rfl rfl ) ?_ | refine sl_pass rfl rfl rfl rfl ?_)
            | (refine gk 2 rfl ?_; first | refine sl_yes rfl rfl rfl (by first | exact opv_eql rfl rfl rfl ) (by first | omega ) ?_ | refine sl_no rfl rfl rfl (by first | exact opv_eql rfl rfl rfl ) (by first | omega ) ?_ )
            | (refine gk 3 rfl ?_; first | refine sl_op rfl rfl rfl (by first | exact opv_load rfl (by exact rfl) rfl (by exact rfl) | exact opv_fieldAddr rfl rfl | exact opv_fieldAddrE rfl rfl (by first | assumption ) | exact opv_loadEx rfl (by exact rfl) (by infer_instance) (by first | assumption ) ) ?_ )
            | (refine gk 4 rfl ?_; first | refine sl_pass rfl rfl rfl rfl ?_ )
            | (refine gk 5 rfl ?_; first | refine sl_op rfl rfl rfl (by first | exact opv_nilCheckE rfl rfl ) ?_ | refine sl_box rfl rfl rfl rfl rfl rfl (fun β => ?_) )
            | refine sl_region rfl ?_
            | refine sl_nil ?_
            | refine thn_k ?_
            | refine swp_true rfl ?_
            | refine swp_ret ?_
            | refine thn_ret ?_
            )
          exact end_retL [specD βd b1 b2 b3 n k c1 c2 c3 rel, HT] (resOk_one (resV_tmp rfl)) ⟨rfl, HT, rfl, os⟩
      · refine fin (false, th) (by unfold notifyD; rw [if_pos h8, if_neg (fun q => hf0 q.2.1)]) ?_
        subst howns
        refine t_of_body Try.func64 rfl (Nat.le_of_ble_eq_true rfl) fun F => ?_
        repeat' (first
          | refine swp_seq ?_
          | (refine gk 0 rfl ?_; first | refine sl_op rfl rfl rfl (by first | exact opv_move rfl rfl | exact opv_assign rfl rfl | exact opv_pick_t rfl rfl rfl | exact opv_pick_f rfl rfl rfl | exact opv_not_f rfl rfl ) ?_ | refine sl_pass rfl rfl rfl rfl ?_)
          | (refine gk 2 rfl ?_; first | refine sl_pass rfl rfl rfl rfl ?_ | refine sl_yes rfl rfl rfl (by first | exact opv_eql rfl rfl rfl ) (by first | omega ) ?_ | refine sl_no rfl rfl rfl (by first | exact opv_eql rfl rfl rfl ) (by first | omega ) ?_ )
          | (refine gk 3 rfl ?_; first | refine sl_op rfl rfl rfl (by first | exact opv_load rfl (by exact rfl) rfl (by exact rfl) | exact opv_fieldAddr rfl rfl | exact opv_fieldAddrE rfl rfl (by first | assumption ) | exact opv_loadEx rfl (by exact rfl) (by infer_instance) (by first | assumption ) ) ?_ | refine sl_pass rfl rfl rfl rfl ?_)
          | (refine gk 4 rfl ?_; first | refine sl_pass rfl rfl rfl rfl ?_ )
          | (refine gk 5 rfl ?_; first | refine sl_op rfl rfl rfl (by first | exact opv_nilCheckE rfl rfl ) ?_ | refine sl_box rfl rfl rfl rfl rfl rfl (fun β => ?_) )
          | refine sl_region rfl ?_
          | refine sl_nil ?_
          | refine thn_k ?_
          | refine swp_true rfl ?_
          | refine swp_ret ?_
          | refine thn_ret ?_
          )
        exact end_retL [specD βd b1 b2 b3 n k c1 c2 c3 rel, HT] (resOk_one (resV_tmp rfl)) ⟨rfl, HT, rfl, os⟩
    · refine fin (false, th) (by unfold notifyD; rw [if_pos h8, if_neg (fun q => by rw [howns] at q; cases q.1)]) ?_
      subst howns
      refine t_of_body Try.func64 rfl (Nat.le_of_ble_eq_true rfl) fun F => ?_
      repeat' (first
        | refine swp_seq ?_
        | (refine gk 0 rfl ?_; first | refine sl_op rfl rfl rfl (by first | exact opv_move rfl rfl | exact opv_assign rfl rfl | exact opv_pick_f rfl rfl rfl | exact opv_not_t rfl rfl ) ?_ | refine sl_pass rfl rfl rfl rfl ?_)
        | (refine gk 2 rfl ?_; first | refine sl_pass rfl rfl rfl rfl ?_ | refine sl_yes rfl rfl rfl (by first | exact opv_eql rfl rfl rfl ) (by first | omega ) ?_ )
        | (refine gk 3 rfl ?_; first | refine sl_op rfl rfl rfl (by first | exact opv_load rfl (by exact rfl) rfl (by exact rfl) | exact opv_fieldAddr rfl rfl ) ?_ | refine sl_pass rfl rfl rfl rfl ?_)
        | (refine gk 4 rfl ?_; first | refine sl_pass rfl rfl rfl rfl ?_ )
        | (refine gk 5 rfl ?_; first | refine sl_pass rfl rfl rfl rfl ?_ | refine sl_box rfl rfl rfl rfl rfl rfl (fun β => ?_) )
        | refine sl_region rfl ?_
        | refine sl_nil ?_
        | refine thn_k ?_
        | refine swp_true rfl ?_
        | refine swp_ret ?_
        | refine thn_ret ?_
        )
      exact end_retL [specD βd b1 b2 b3 n k c1 c2 c3 rel, HT] (resOk_one (resV_tmp rfl)) ⟨rfl, HT, rfl, os⟩
  · by_cases h3 : e.act = 3
    · rcases (Bool.eq_false_or_eq_true owns).symm with howns | howns
      · refine fin (false, th) (by unfold notifyD; rw [if_neg h8, if_pos (.inr (.inl howns))]) ?_
        subst howns
        refine t_of_body Try.func64 rfl (Nat.le_of_ble_eq_true rfl) fun F => ?_
        repeat' (first
          | refine swp_seq ?_
          | (refine gk 0 rfl ?_; first | refine sl_op rfl rfl rfl (by first | exact opv_assign rfl rfl ) ?_ )
          | (refine gk 2 rfl ?_; first | refine sl_no rfl rfl rfl (by first | exact opv_eql rfl rfl rfl ) (by first | omega ) ?_ )
          | (refine gk 3 rfl ?_; first | refine sl_op rfl rfl rfl (by first | exact opv_load rfl (by exact rfl) rfl (by exact rfl) | exact opv_fieldAddr rfl rfl ) ?_ )
          | (refine gk 5 rfl ?_; first | refine sl_box rfl rfl rfl rfl rfl rfl (fun β => ?_) )
          | refine sl_region rfl ?_
          | refine sl_nil ?_
          | refine thn_k ?_
          | refine swp_false rfl ?_
          | refine swp_skip ?_
          )
        refine sl_drawC [.q [0, 1, 2, 3, 4, 5, 6, 7, 8, 9, 10, 11, 12], .h false 13, .q [14, 15]] [] (by kernel_rfl) (by kernel_rfl) (by kernel_rfl) (by kernel_rfl) ?_
        repeat' (first
          | refine swp_seq ?_
          | (refine gk 0 rfl ?_; first | refine sl_op rfl rfl rfl (by first | exact opv_move rfl rfl | exact opv_assign rfl rfl | exact opv_pick_t rfl rfl rfl | exact opv_pick_f rfl rfl rfl | exact opv_not_f rfl rfl ) ?_ | refine sl_pass rfl rfl rfl rfl ?_)
          | (refine gk 2 rfl ?_; first | refine sl_pass rfl rfl rfl rfl ?_ | refine sl_no rfl rfl rfl (by first | exact opv_neq rfl rfl rfl) (by first | omega ) ?_ )
          | (refine gk 3 rfl ?_; first | refine sl_op rfl rfl rfl (by first | exact opv_load rfl (by exact rfl) rfl (by exact rfl) | exact opv_fieldAddr rfl rfl ) ?_ | refine sl_pass rfl rfl rfl rfl ?_)
          | refine sl_region rfl ?_
          | refine chu_nil ?_
          | refine chu_q rfl ?_
          | refine chu_pass rfl rfl rfl rfl ?_
          | refine sl_nil ?_
          | refine thn_k ?_
          | refine swp_true rfl ?_
          | refine swp_ret ?_
          | refine thn_ret ?_
          )
        exact end_retL [specD βd b1 b2 b3 n k c1 c2 c3 rel, HT] (resOk_one (resV_tmp rfl)) ⟨rfl, HT, rfl, os⟩
      · by_cases ho : e.other = dlong th e.obj
        · have hnr : ¬ (e.act ≠ 3 ∨ owns = false ∨ e.other ≠ dlong th e.obj) := by
            rw [howns]; simp [h3, ho]
          by_cases hneg : e.other < 0
          · refine fin (true, th.modify t (dfin · 0 0)) (by unfold notifyD; rw [if_neg h8, if_neg hnr, if_pos hneg]) ?_
            clear hnr
            subst howns
            have hfi0 := hfi 0 0
            rw [← mod_set (f := (dfin · 0 0)) h] at hfi0
            refine t_of_body Try.func64 rfl (Nat.le_of_ble_eq_true rfl) fun F => ?_
            repeat' (first
              | refine swp_seq ?_
              | (refine gk 0 rfl ?_; first | refine sl_op rfl rfl rfl (by first | exact opv_assign rfl rfl ) ?_ )
              | (refine gk 2 rfl ?_; first | refine sl_no rfl rfl rfl (by first | exact opv_eql rfl rfl rfl ) (by first | omega ) ?_ )
              | (refine gk 3 rfl ?_; first | refine sl_op rfl rfl rfl (by first | exact opv_load rfl (by exact rfl) rfl (by exact rfl) | exact opv_fieldAddr rfl rfl ) ?_ )
              | (refine gk 5 rfl ?_; first | refine sl_box rfl rfl rfl rfl rfl rfl (fun β => ?_) )
              | refine sl_region rfl ?_
              | refine sl_nil ?_
              | refine thn_k ?_
              | refine swp_false rfl ?_
              | refine swp_skip ?_
              )
            refine sl_drawC [.q [0, 1, 2, 3, 4, 5, 6, 7, 8, 9, 10, 11, 12], .h false 13, .q [14, 15]] [] (by kernel_rfl) (by kernel_rfl) (by kernel_rfl) (by kernel_rfl) ?_
            repeat' (first
              | refine swp_seq ?_
              | (refine gk 0 rfl ?_; first | refine sl_op rfl rfl rfl (by first | exact opv_move rfl rfl | exact opv_assign rfl rfl | exact opv_pick_t rfl rfl rfl | exact opv_pick_f rfl rfl rfl | exact opv_not_t rfl rfl ) ?_ )
              | (refine gk 2 rfl ?_; first | refine sl_pass rfl rfl rfl rfl ?_ | refine sl_yes rfl rfl rfl (by first | exact opv_lss rfl rfl rfl | exact opv_geq rfl rfl rfl | exact opv_eql rfl rfl rfl | exact opv_neq rfl rfl rfl) (by first | omega ) ?_ | refine sl_no rfl rfl rfl (by first | exact opv_geq rfl rfl rfl | exact opv_eql rfl rfl rfl | exact opv_neq rfl rfl rfl) (by first | omega ) ?_ | refine sl_if rfl rfl rfl (by first | exact opv_eql rfl rfl rfl ) (fun h => ?_) (fun h => ?_) )
              | (refine gk 3 rfl ?_; first | refine sl_op rfl rfl rfl (by first | exact opv_load rfl (by exact rfl) rfl (by exact rfl) | exact opv_fieldAddr rfl rfl | exact opv_fieldAddrE rfl rfl (by first | assumption | omega) | exact opv_loadEx rfl (by exact rfl) (by infer_instance) (by first | assumption ) ) ?_ | refine sl_pass rfl rfl rfl rfl ?_)
              | (refine gk 4 rfl ?_; first | (refine sl_callT rfl rfl rfl rfl rfl rfl rfl rfl (hfi0) ?_; rintro _ _ ⟨rfl, HT2, rfl, os2⟩; refine ⟨_, _, rfl, rfl, ?_⟩))
              | (refine gk 5 rfl ?_; first | refine sl_op rfl rfl rfl (by first | exact opv_nilCheckE rfl rfl ) ?_ )
              | refine sl_region rfl ?_
              | refine chu_nil ?_
              | refine chu_q rfl ?_
              | refine chu_P rfl rfl rfl rfl rfl rfl rfl rfl (hlg) rfl ?_
              | refine sl_nil ?_
              | refine thn_k ?_
              | refine swp_true rfl ?_
              | refine swp_false rfl ?_
              | refine swp_ret ?_
              | refine swp_skip ?_
              | refine thn_ret ?_
              )
            all_goals exact end_retL [specD βd b1 b2 b3 n k c1 c2 c3 rel, HT2] (resOk_one (resV_tmp rfl)) ⟨rfl, HT2, rfl, os2⟩
          · have hu : e.other.toNat < th.length := by
              rcases dlong_mem th e.obj with q | ⟨v, q1, q2⟩
              · omega
              · omega
            obtain ⟨y, hy⟩ : ∃ y, th[e.other.toNat]? = some y := ⟨_, List.getElem?_eq_getElem hu⟩
            have hul : e.other.toNat * 11 < (dts th).length := by omega
            have s1 := dts_set (i := 5) (vs := [i64 4]) (t' := { y with far := 4 }) hy (by decide) rfl
            have y2 := set_at (t' := { y with far := 4 }) hy
            have l2 := dts_length (th.set e.other.toNat { y with far := 4 })
            rw [List.length_set] at l2
            have hul2 : e.other.toNat * 11 < (dts (th.set e.other.toNat { y with far := 4 })).length := by omega
            have s2 := dts_set (i := 6) (vs := [i64 0, i64 0]) (t' := wkD y) y2 (by decide) rfl
            rw [List.set_set, ← mod_set (f := wkD) hy] at s2
            have l3 := dts_length (th.modify e.other.toNat wkD)
            rw [List.length_modify] at l3
            obtain ⟨x', hx', hop⟩ : ∃ x', (th.modify e.other.toNat wkD)[t]? = some x' ∧ x'.op = x.op := by
              rw [List.getElem?_modify, h]
              by_cases q : e.other.toNat = t
              · exact ⟨wkD x, by simp [q], rfl⟩
              · exact ⟨x, by simp [q], rfl⟩
            have hl3 : t * 11 < (dts (th.modify e.other.toNat wkD)).length := by omega
            have a2' : (dts (th.modify e.other.toNat wkD))[t * 11 + 2 + 0]? = some (i64 x.op) := by rw [← hop]; exact dts_at hx' 2 _ rfl
            by_cases hx4 : x.op = 4
            · refine fin (true, (th.modify e.other.toNat wkD).modify t (dfin · 0 0)) (by unfold notifyD; rw [if_neg h8, if_neg hnr, if_neg hneg, if_pos hx4]) ?_
              clear hnr
              subst howns
              refine t_of_body Try.func64 rfl (Nat.le_of_ble_eq_true rfl) fun F => ?_
              repeat' (first
                | refine swp_seq ?_
                | (refine gk 0 rfl ?_; first | refine sl_op rfl rfl rfl (by first | exact opv_assign rfl rfl ) ?_ )
                | (refine gk 2 rfl ?_; first | refine sl_no rfl rfl rfl (by first | exact opv_eql rfl rfl rfl ) (by first | omega ) ?_ )
                | (refine gk 3 rfl ?_; first | refine sl_op rfl rfl rfl (by first | exact opv_load rfl (by exact rfl) rfl (by exact rfl) | exact opv_fieldAddr rfl rfl ) ?_ )
                | (refine gk 5 rfl ?_; first | refine sl_box rfl rfl rfl rfl rfl rfl (fun β => ?_) )
                | refine sl_region rfl ?_
                | refine sl_nil ?_
                | refine thn_k ?_
                | refine swp_false rfl ?_
                | refine swp_skip ?_
                )
              refine sl_drawC [.q [0, 1, 2, 3, 4, 5, 6, 7, 8, 9, 10, 11, 12], .h false 13, .q [14, 15]] [] (by kernel_rfl) (by kernel_rfl) (by kernel_rfl) (by kernel_rfl) ?_
              repeat' (first
                | refine swp_seq ?_
                | (refine gk 0 rfl ?_; first | refine sl_op rfl rfl rfl (by first | exact opv_move rfl rfl | exact opv_pick_f rfl rfl rfl | exact opv_not_t rfl rfl ) ?_ )
                | (refine gk 2 rfl ?_; first | refine sl_yes rfl rfl rfl (by first | exact opv_geq rfl rfl rfl | exact opv_neq rfl rfl rfl) (by first | omega ) ?_ | refine sl_no rfl rfl rfl (by first | exact opv_neq rfl rfl rfl) (by first | omega ) ?_ )
                | (refine gk 3 rfl ?_; first | refine sl_op rfl rfl rfl (by first | exact opv_load rfl (by exact rfl) rfl (by exact rfl) | exact opv_fieldAddr rfl rfl ) ?_ )
                | refine sl_region rfl ?_
                | refine chu_nil ?_
                | refine chu_q rfl ?_
                | refine chu_P rfl rfl rfl rfl rfl rfl rfl rfl (hlg) rfl ?_
                | refine sl_nil ?_
                | refine thn_k ?_
                | refine swp_true rfl ?_
                | refine swp_false rfl ?_
                | refine swp_skip ?_
                )
              refine sl_drawC [.q [0, 1, 2, 3, 4, 5, 6, 7], .h true 8] [] (by kernel_rfl) (by kernel_rfl) (by kernel_rfl) (by kernel_rfl) ?_
              repeat' (first
                | (refine gk 0 rfl ?_; first | refine sl_op rfl rfl rfl (by first | exact opv_move rfl rfl ) ?_ )
                | (refine gk 3 rfl ?_; first | refine sl_op rfl rfl rfl (by first | exact opv_load rfl (by exact rfl) rfl (by exact rfl) | exact opv_fieldAddr rfl rfl | exact opv_indexAddrI rfl rfl rfl (by omega) (by omega) (by first | omega ) | exact opv_fieldAddrE rfl rfl (by first | assumption ) ) ?_ )
                | (refine gk 5 rfl ?_; first | refine sl_op rfl rfl rfl (by first | exact opv_nilCheck rfl rfl ) ?_ )
                | refine chu_nil ?_
                | refine chu_q rfl ?_
                | (refine chu_storeE rfl rfl rfl rfl rfl rfl os rfl rfl rfl (Nat.succ_pos _) (by simp; omega) s1 (fun HT2 os2 => ?_); haveI slT2 := os2.sl)
                | refine sl_nil ?_
                | refine thn_k ?_
                )
              refine sl_drawC [.q [0, 1, 2, 3, 4, 5, 6, 7, 8], .h true 9] [] (by kernel_rfl) (by kernel_rfl) (by kernel_rfl) (by kernel_rfl) ?_
              repeat' (first
                | refine swp_seq ?_
                | (refine gk 0 rfl ?_; first | refine sl_op rfl rfl rfl (by first | exact opv_move rfl rfl | exact opv_assign rfl rfl | exact opv_pick_t rfl rfl rfl ) ?_ )
                | (refine gk 2 rfl ?_; first | refine sl_pass rfl rfl rfl rfl ?_ | refine sl_yes rfl rfl rfl (by first | exact opv_eql rfl rfl rfl ) (by first | omega ) ?_ )
                | (refine gk 3 rfl ?_; first | refine sl_op rfl rfl rfl (by first | exact opv_load rfl (by exact rfl) rfl (by exact rfl) | exact opv_fieldAddr rfl rfl | exact opv_indexAddrI rfl rfl rfl (by omega) (by omega) (by first | omega ) | exact opv_fieldAddrE rfl rfl (by first | assumption | omega) | exact opv_loadEx rfl (by exact rfl) (by infer_instance) (by first | assumption ) ) ?_ | refine sl_pass rfl rfl rfl rfl ?_)
                | (refine gk 4 rfl ?_; first | (refine sl_callT rfl rfl rfl rfl rfl rfl rfl rfl (hfi2) ?_; rintro _ _ ⟨rfl, HT4, rfl, os4⟩; refine ⟨_, _, rfl, rfl, ?_⟩))
                | (refine gk 5 rfl ?_; first | refine sl_op rfl rfl rfl (by first | exact opv_nilCheck rfl rfl | exact opv_nilCheckE rfl rfl | exact opv_build rfl rfl (by exact rfl) ) ?_ )
                | refine sl_region rfl ?_
                | refine chu_nil ?_
                | refine chu_q rfl ?_
                | (refine chu_storeE rfl rfl rfl rfl rfl rfl os2 rfl rfl rfl (Nat.succ_pos _) (by simp; omega) s2 (fun HT3 os3 => ?_); haveI slT3 := os3.sl; have hfi2 := finish_calls 0 0 os3 hx'; rw [← mod_set (f := (dfin · 0 0)) hx'] at hfi2)
                | refine sl_nil ?_
                | refine thn_k ?_
                | refine swp_true rfl ?_
                | refine swp_ret ?_
                | refine thn_ret ?_
                )
              exact end_retL [specD βd b1 b2 b3 n k c1 c2 c3 rel, HT4] (resOk_one (resV_tmp rfl)) ⟨rfl, HT4, rfl, os4⟩
            · refine fin (true, (th.modify e.other.toNat wkD).modify t fun y => { y with far := 1 }) (by unfold notifyD; rw [if_neg h8, if_neg hnr, if_neg hneg, if_neg hx4]) ?_
              clear hnr
              subst howns
              have s3 := dts_set (i := 5) (vs := [i64 1]) (t' := { x' with far := 1 }) hx' (by decide) rfl
              rw [← mod_set (f := fun y => { y with far := 1 }) hx'] at s3
              refine t_of_body Try.func64 rfl (Nat.le_of_ble_eq_true rfl) fun F => ?_
              repeat' (first
                | refine swp_seq ?_
                | (refine gk 0 rfl ?_; first | refine sl_op rfl rfl rfl (by first | exact opv_assign rfl rfl ) ?_ )
                | (refine gk 2 rfl ?_; first | refine sl_no rfl rfl rfl (by first | exact opv_eql rfl rfl rfl ) (by first | omega ) ?_ )
                | (refine gk 3 rfl ?_; first | refine sl_op rfl rfl rfl (by first | exact opv_load rfl (by exact rfl) rfl (by exact rfl) | exact opv_fieldAddr rfl rfl ) ?_ )
                | (refine gk 5 rfl ?_; first | refine sl_box rfl rfl rfl rfl rfl rfl (fun β => ?_) )
                | refine sl_region rfl ?_
                | refine sl_nil ?_
                | refine thn_k ?_
                | refine swp_false rfl ?_
                | refine swp_skip ?_
                )
              refine sl_drawC [.q [0, 1, 2, 3, 4, 5, 6, 7, 8, 9, 10, 11, 12], .h false 13, .q [14, 15]] [] (by kernel_rfl) (by kernel_rfl) (by kernel_rfl) (by kernel_rfl) ?_
              repeat' (first
                | refine swp_seq ?_
                | (refine gk 0 rfl ?_; first | refine sl_op rfl rfl rfl (by first | exact opv_move rfl rfl | exact opv_pick_f rfl rfl rfl | exact opv_not_t rfl rfl ) ?_ )
                | (refine gk 2 rfl ?_; first | refine sl_yes rfl rfl rfl (by first | exact opv_geq rfl rfl rfl | exact opv_neq rfl rfl rfl) (by first | omega ) ?_ | refine sl_no rfl rfl rfl (by first | exact opv_neq rfl rfl rfl) (by first | omega ) ?_ )
                | (refine gk 3 rfl ?_; first | refine sl_op rfl rfl rfl (by first | exact opv_load rfl (by exact rfl) rfl (by exact rfl) | exact opv_fieldAddr rfl rfl ) ?_ )
                | refine sl_region rfl ?_
                | refine chu_nil ?_
                | refine chu_q rfl ?_
                | refine chu_P rfl rfl rfl rfl rfl rfl rfl rfl (hlg) rfl ?_
                | refine sl_nil ?_
                | refine thn_k ?_
                | refine swp_true rfl ?_
                | refine swp_false rfl ?_
                | refine swp_skip ?_
                )
              refine sl_drawC [.q [0, 1, 2, 3, 4, 5, 6, 7], .h true 8] [] (by kernel_rfl) (by kernel_rfl) (by kernel_rfl) (by kernel_rfl) ?_
              repeat' (first
                | (refine gk 0 rfl ?_; first | refine sl_op rfl rfl rfl (by first | exact opv_move rfl rfl ) ?_ )
                | (refine gk 3 rfl ?_; first | refine sl_op rfl rfl rfl (by first | exact opv_load rfl (by exact rfl) rfl (by exact rfl) | exact opv_fieldAddr rfl rfl | exact opv_indexAddrI rfl rfl rfl (by omega) (by omega) (by first | omega ) | exact opv_fieldAddrE rfl rfl (by first | assumption ) ) ?_ )
                | (refine gk 5 rfl ?_; first | refine sl_op rfl rfl rfl (by first | exact opv_nilCheck rfl rfl ) ?_ )
                | refine chu_nil ?_
                | refine chu_q rfl ?_
                | (refine chu_storeE rfl rfl rfl rfl rfl rfl os rfl rfl rfl (Nat.succ_pos _) (by simp; omega) s1 (fun HT2 os2 => ?_); haveI slT2 := os2.sl)
                | refine sl_nil ?_
                | refine thn_k ?_
                )
              refine sl_drawC [.q [0, 1, 2, 3, 4, 5, 6, 7, 8], .h true 9] [] (by kernel_rfl) (by kernel_rfl) (by kernel_rfl) (by kernel_rfl) ?_
              repeat' (first
                | refine sl_storeE rfl rfl rfl rfl rfl os3 rfl rfl rfl (Nat.succ_pos _) (by simp; omega) s3 (fun HT4 os4 => ?_)
                | refine swp_seq ?_
                | (refine gk 0 rfl ?_; first | refine sl_op rfl rfl rfl (by first | exact opv_move rfl rfl | exact opv_assign rfl rfl | exact opv_pick_f rfl rfl rfl ) ?_ )
                | (refine gk 2 rfl ?_; first | refine sl_no rfl rfl rfl (by first | exact opv_lss rfl rfl rfl | exact opv_eql rfl rfl rfl ) (by first | omega ) ?_ )
                | (refine gk 3 rfl ?_; first | refine sl_op rfl rfl rfl (by first | exact opv_load rfl (by exact rfl) rfl (by exact rfl) | exact opv_fieldAddr rfl rfl | exact opv_indexAddrI rfl rfl rfl (by omega) (by omega) (by first | omega ) | exact opv_fieldAddrE rfl rfl (by first | assumption | omega) | exact opv_loadEx rfl (by exact rfl) (by infer_instance) (by first | assumption ) ) ?_ )
                | (refine gk 5 rfl ?_; first | refine sl_op rfl rfl rfl (by first | exact opv_nilCheck rfl rfl | exact opv_nilCheckE rfl rfl | exact opv_build rfl rfl (by exact rfl) ) ?_ )
                | refine sl_region rfl ?_
                | refine chu_nil ?_
                | refine chu_q rfl ?_
                | (refine chu_storeE rfl rfl rfl rfl rfl rfl os2 rfl rfl rfl (Nat.succ_pos _) (by simp; omega) s2 (fun HT3 os3 => ?_); haveI slT3 := os3.sl; skip)
                | refine sl_nil ?_
                | refine thn_k ?_
                | refine swp_false rfl ?_
                | refine swp_ret ?_
                | refine swp_skip ?_
                )
              exact end_retL [specD βd b1 b2 b3 n k c1 c2 c3 rel, HT4] (resOk_one (resV_tmp rfl)) ⟨rfl, HT4, rfl, os4⟩
        · refine fin (false, th) (by unfold notifyD; rw [if_neg h8, if_pos (.inr (.inr ho))]) ?_
          subst howns
          refine t_of_body Try.func64 rfl (Nat.le_of_ble_eq_true rfl) fun F => ?_
          repeat' (first
            | refine swp_seq ?_
            | (refine gk 0 rfl ?_; first | refine sl_op rfl rfl rfl (by first | exact opv_assign rfl rfl ) ?_ )
            | (refine gk 2 rfl ?_; first | refine sl_no rfl rfl rfl (by first | exact opv_eql rfl rfl rfl ) (by first | omega ) ?_ )
            | (refine gk 3 rfl ?_; first | refine sl_op rfl rfl rfl (by first | exact opv_load rfl (by exact rfl) rfl (by exact rfl) | exact opv_fieldAddr rfl rfl ) ?_ )
            | (refine gk 5 rfl ?_; first | refine sl_box rfl rfl rfl rfl rfl rfl (fun β => ?_) )
            | refine sl_region rfl ?_
            | refine sl_nil ?_
            | refine thn_k ?_
            | refine swp_false rfl ?_
            | refine swp_skip ?_
            )
          refine sl_drawC [.q [0, 1, 2, 3, 4, 5, 6, 7, 8, 9, 10, 11, 12], .h false 13, .q [14, 15]] [] (by kernel_rfl) (by kernel_rfl) (by kernel_rfl) (by kernel_rfl) ?_
          repeat' (first
            | refine swp_seq ?_
            | (refine gk 0 rfl ?_; first | refine sl_op rfl rfl rfl (by first | exact opv_move rfl rfl | exact opv_assign rfl rfl | exact opv_pick_f rfl rfl rfl | exact opv_not_t rfl rfl ) ?_ )
            | (refine gk 2 rfl ?_; first | refine sl_yes rfl rfl rfl (by first | exact opv_neq rfl rfl rfl) (by first | omega ) ?_ | refine sl_no rfl rfl rfl (by first | exact opv_neq rfl rfl rfl) (by first | omega ) ?_ )
            | (refine gk 3 rfl ?_; first | refine sl_op rfl rfl rfl (by first | exact opv_load rfl (by exact rfl) rfl (by exact rfl) | exact opv_fieldAddr rfl rfl ) ?_ )
            | refine sl_region rfl ?_
            | refine chu_nil ?_
            | refine chu_q rfl ?_
            | refine chu_P rfl rfl rfl rfl rfl rfl rfl rfl (hlg) rfl ?_
            | refine sl_nil ?_
            | refine thn_k ?_
            | refine swp_true rfl ?_
            | refine swp_ret ?_
            | refine thn_ret ?_
            )
          exact end_retL [specD βd b1 b2 b3 n k c1 c2 c3 rel, HT] (resOk_one (resV_tmp rfl)) ⟨rfl, HT, rfl, os⟩
    · refine fin (false, th) (by unfold notifyD; rw [if_neg h8, if_pos (.inl h3)]) ?_
      refine t_of_body Try.func64 rfl (Nat.le_of_ble_eq_true rfl) fun F => ?_
      repeat' (first
        | refine swp_seq ?_
        | (refine gk 0 rfl ?_; first | refine sl_op rfl rfl rfl (by first | exact opv_assign rfl rfl ) ?_ )
        | (refine gk 2 rfl ?_; first | refine sl_no rfl rfl rfl (by first | exact opv_eql rfl rfl rfl ) (by first | omega ) ?_ )
        | (refine gk 3 rfl ?_; first | refine sl_op rfl rfl rfl (by first | exact opv_load rfl (by exact rfl) rfl (by exact rfl) | exact opv_fieldAddr rfl rfl ) ?_ )
        | (refine gk 5 rfl ?_; first | refine sl_box rfl rfl rfl rfl rfl rfl (fun β => ?_) )
        | refine sl_region rfl ?_
        | refine sl_nil ?_
        | refine thn_k ?_
        | refine swp_false rfl ?_
        | refine swp_skip ?_
        )
      refine sl_drawC [.q [0, 1, 2, 3, 4, 5, 6, 7, 8, 9, 10, 11, 12], .h false 13, .q [14, 15]] [] (by kernel_rfl) (by kernel_rfl) (by kernel_rfl) (by kernel_rfl) ?_
      repeat' (first
        | refine swp_seq ?_
        | (refine gk 0 rfl ?_; first | refine sl_op rfl rfl rfl (by first | exact opv_move rfl rfl | exact opv_assign rfl rfl | exact opv_pick_t rfl rfl rfl ) ?_ | refine sl_pass rfl rfl rfl rfl ?_)
        | (refine gk 2 rfl ?_; first | refine sl_pass rfl rfl rfl rfl ?_ | refine sl_yes rfl rfl rfl (by first | exact opv_neq rfl rfl rfl) (by first | omega ) ?_ )
        | (refine gk 3 rfl ?_; first | refine sl_op rfl rfl rfl (by first | exact opv_load rfl (by exact rfl) rfl (by exact rfl) | exact opv_fieldAddr rfl rfl ) ?_ | refine sl_pass rfl rfl rfl rfl ?_)
        | refine sl_region rfl ?_
        | refine chu_nil ?_
        | refine chu_q rfl ?_
        | refine chu_pass rfl rfl rfl rfl ?_
        | refine sl_nil ?_
        | refine thn_k ?_
        | refine swp_true rfl ?_
        | refine swp_ret ?_
        | refine thn_ret ?_
        )
      exact end_retL [specD βd b1 b2 b3 n k c1 c2 c3 rel, HT] (resOk_one (resV_tmp rfl)) ⟨rfl, HT, rfl, os⟩
end
end Go.Proofs.Ytimmclibnfdjhaa
end
section
/- The document's automaton: waiting. -/
namespace Go.Proofs.Ytimmclibnfdjhaa
open Go.SL
set_option maxRecDepth 100000
set_option maxHeartbeats 16000000
attribute [local irreducible] SL.T PFn OpV SOL SWP HOp ChU
def DS.mod (δ : DS) (t : Nat) (f : DT → DT) : DS := { δ with th := δ.th.modify t f }
def DS.obj (δ : DS) (k : Nat) (o d : Int) : DS := { δ with ow := δ.ow.set k o, dp := δ.dp.set k d }
/-- Waiting, as the document says. -/
def waitDf (δ : DS) (t k : Nat) (x : DT) (ow dp : Int) (owns : Bool) (e : Ev) : Bool × DS :=
  if e.act = 8 ∧ x.far = 0 then (if (e.other = 4 ∧ owns = false) ∨ e.other = 3 then (true, δ.mod t (dfin · e.other 0)) else (false, δ))
  else if e.act = 7 ∧ e.other = 0 ∧ x.far = 0 ∧ owns = true ∧ x.flag = true then (true, δ.mod t fun y => dfin { y with flag := false } 0 2)
  else if e.act = 2 ∧ e.other = 0 ∧ x.far = 0 ∧ owns = true then (true, { δ.obj k (-1) 0 with th := δ.th.modify t fun y => { y with saved := dp, since := inc δ.rel, far := 2 }, rel := inc δ.rel })
  else if e.act = 7 ∧ e.other = 0 ∧ x.far = 2 ∧ x.flag = true then (true, δ.mod t fun y => { y with flag := false, far := 3 })
  else if e.act = 4 then (if (x.far = 2 ∧ (e.other = 3 ∨ (e.other = 1 ∧ x.op = 3))) ∨ (x.far = 3 ∧ e.other = 2) then (true, δ.mod t fun y => { y with far := 4, code := 0, val := e.other }) else (false, δ))
  else if e.act = 5 ∧ e.other = 0 ∧ x.far = 4 ∧ ow < 0 then (true, (δ.obj k e.thread x.saved).mod t fun y => { y with far := 5 })
  else (false, δ)
/-- The document's automaton, as it is laid. -/
structure MemD (b1 b2 b3 : Option Addr) (n k c1 c2 c3 : Nat) (HW HP HT : Heap) (δ : DS) : Prop where
  hW : OS HW b1 k c1 3 1 (δ.ow.map i64)
  hP : OS HP b2 k c2 3 1 (δ.dp.map i64)
  hT : OS HT b3 n c3 109 11 (dts δ.th)
  hn : δ.th.length = n
  hk : δ.ow.length = k
  hd : δ.dp.length = k
def RetD (βd : Nat) (b1 b2 b3 : Option Addr) (n k c1 c2 c3 : Nat) (r : Bool × DS) (en : Ending) (w : List Heap) : Prop :=
  en = .returned (.bool r.1) ∧ ∃ HW' HP' HT', w = [specD βd b1 b2 b3 n k c1 c2 c3 r.2.rel, HW', HP', HT'] ∧ MemD b1 b2 b3 n k c1 c2 c3 HW' HP' HT' r.2
theorem MemD.mod {b1 b2 b3 : Option Addr} {n k c1 c2 c3 : Nat} {HW HP HT HT' : Heap} {δ : DS} {t : Nat} {f : DT → DT} (m : MemD b1 b2 b3 n k c1 c2 c3 HW HP HT δ) (os : OS HT' b3 n c3 109 11 (dts (δ.th.modify t f))) : MemD b1 b2 b3 n k c1 c2 c3 HW HP HT' (δ.mod t f) :=
  ⟨m.hW, m.hP, os, by simp [DS.mod, m.hn], m.hk, m.hd⟩
theorem ints_set {l : List Int} {k : Nat} {x : Int} (h : k < l.length) : (l.map i64).take (k * 1) ++ [i64 x] ++ (l.map i64).drop (k * 1 + [i64 x].length) = (l.set k x).map i64 := by
  rw [Nat.mul_one, List.map_set, List.set_eq_take_append_cons_drop, if_pos (by simpa using h)]
  simp
end Go.Proofs.Ytimmclibnfdjhaa
end
section
/- The document's automaton: acts. -/
namespace Go.Proofs.Ytimmclibnfdjhaa
open Go.SL
theorem set_same {l : List Int} {k : Nat} {x : Int} (h : l[k]? = some x) : l.set k x = l := by
  apply List.ext_getElem?
  intro u
  rw [List.getElem?_set]
  by_cases e : k = u
  · subst e
    rw [h]; simp [(List.getElem?_eq_some_iff.1 h).1]
  · simp [e]
/-- An act of a call that is open, as the document says. -/
def stepD (δ : DS) (t k : Nat) (x : DT) (ow dp : Int) (e : Ev) : Bool × DS :=
  if x.op = 0 then (if e.act = 0 ∧ e.other = 0 ∧ (ow = e.thread ∨ ow < 0) then (true, (δ.obj k e.thread (inc dp)).mod t (dfin · 0 0))
    else if e.act = 8 ∧ ((e.other = 5 ∧ ow = e.thread) ∨ e.other = 3) then (true, δ.mod t (dfin · e.other 0)) else (false, δ))
  else if x.op = 1 then (if e.act = 1 ∧ e.other = 0 ∧ ow = e.thread then (true, (δ.obj k (if dec dp = 0 then -1 else ow) (dec dp)).mod t (dfin · 0 0))
    else if e.act = 8 ∧ e.other = 4 ∧ ow ≠ e.thread then (true, δ.mod t (dfin · 4 0)) else (false, δ))
  else if x.op = 7 then (if e.act = 9 ∧ ((e.other = 1 ∧ ow = e.thread) ∨ (e.other = 0 ∧ ow ≠ e.thread)) then (true, δ.mod t (dfin · 0 e.other)) else (false, δ))
  else if x.op = 4 ∨ x.op = 5 then ((notifyD δ.th t x (decide (ow = e.thread)) e).1, { δ with th := (notifyD δ.th t x (decide (ow = e.thread)) e).2 })
  else if x.op = 2 ∨ x.op = 3 then waitDf δ t k x ow dp (decide (ow = e.thread)) e
  else if x.op = 6 then (if e.act = 6 ∧ e.other = x.arg then (true, (δ.mod e.other.toNat fun y => { y with flag := true }).mod t (dfin · 0 0)) else (false, δ))
  else (if e.act = 10 ∧ e.other = 0 then (true, δ.mod t (dfin · 0 0)) else (false, δ))
def noD (n k : Nat) (x : DT) (e : Ev) : Prop := x.opn = false ∨ wrongB n k x.op x.obj x.arg ∨ e.obj ≠ x.obj ∨ x.far = 5
instance {n k : Nat} {x : DT} {e : Ev} : Decidable (noD n k x e) := by unfold noD; infer_instance
def actD (δ : DS) (e : Ev) : Bool × DS := match δ.th[e.thread.toNat]? with
  | none => (false, δ)
  | some x => if noD δ.th.length δ.ow.length x e then (false, δ) else match δ.ow[e.obj.toNat]?, δ.dp[e.obj.toNat]? with
    | some ow, some dp => stepD δ e.thread.toNat e.obj.toNat x ow dp e
    | _, _ => (false, δ)
end Go.Proofs.Ytimmclibnfdjhaa
end
section
/- What notifying keeps. -/
namespace Go.Proofs.Ytimmclibnfdjhaa
open Go.SL
theorem notifyD_len {th : List DT} {t : Nat} {x : DT} {owns : Bool} {e : Ev} : (notifyD th t x owns e).2.length = th.length := by
  unfold notifyD
  split
  · split <;> simp
  split
  · rfl
  split
  · simp
  split <;> simp
end Go.Proofs.Ytimmclibnfdjhaa
end
section
/- The document's automaton: events. -/
namespace Go.Proofs.Ytimmclibnfdjhaa
open Go.SL
def callD (e : Ev) (y : DT) : DT := ⟨inc y.calls, true, e.act, e.obj, e.other, 0, 0, 0, y.flag, y.saved, y.since⟩
abbrev shutD (y : DT) : DT := { y with opn := false }
/-- An event, as the document says. -/
def takeD (δ : DS) (e : Ev) : Bool × DS :=
  if ¬ (0 ≤ e.thread ∧ e.thread < δ.th.length) then (false, δ)
  else match δ.th[e.thread.toNat]? with
  | none => (false, δ)
  | some x =>
    if e.kind = 0 then (if x.opn = true ∨ e.index ≠ x.calls ∨ e.code ≠ 0 ∨ e.val ≠ 0 then (false, δ) else (true, δ.mod e.thread.toNat (callD e)))
    else if e.kind = 1 then (if e.index = 0 ∧ e.code = 0 ∧ e.val = 0 then actD δ e else (false, δ))
    else if e.kind = 2 then (if x.opn = false ∨ e.index ≠ dec x.calls ∨ e.act ≠ 0 ∨ e.obj ≠ 0 ∨ e.other ≠ 0 then (false, δ)
      else if wrongB δ.th.length δ.ow.length x.op x.obj x.arg then (if e.code = 2 ∧ e.val = 0 then (true, δ.mod e.thread.toNat shutD) else (false, δ))
      else if x.far ≠ 5 ∧ (x.op ≠ 8 ∨ x.far ≠ 0) then (false, δ)
      else if e.code = x.code ∧ e.val = x.val then (true, δ.mod e.thread.toNat shutD) else (false, δ))
    else (false, δ)
end Go.Proofs.Ytimmclibnfdjhaa
end
