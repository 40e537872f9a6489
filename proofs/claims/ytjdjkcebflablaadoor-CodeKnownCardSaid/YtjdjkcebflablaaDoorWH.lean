/- The program's decoder: what it reads, as a function; kinds and instructions, walked. -/
import Derived.Test.YtjdjkcebflablaaDoorWG2
set_option linter.unusedVariables false
set_option linter.unusedSimpArgs false
set_option linter.unusedSectionVars false
namespace Go.Proofs.YtjdjkcebflablaaDoor
open Go.SL
set_option maxRecDepth 100000
set_option maxHeartbeats 16000000
/-- Some of the heaps, in whatever order. -/
theorem sub_perm {own hs rest : List Heap} [t : TakeL own hs rest] : ∀ (F : Heap) w, Sat (F :: own) w → Sat (F :: hs) w :=
  fun F w s => (s.perm (t.perm.cons F)).sub (List.Sublist.cons_cons F (List.sublist_append_left _ _))
attribute [local irreducible] SL.T PFn OpV SOL SWP HOp ChU DZ.ChU
-- ALIAS Tryd
-- CHANGES 46 65 67 50 68
/-! What is read: a thing, and where it ends; or where it is wrong. -/
abbrev Rd (α : Type) := Nat → Except Nat (α × Nat)
def num (s : List UInt8) (many : Nat) (p : Int → Bool) : Rd Int := fun a => match getF s a many p with | .ok n => .ok (n, a + many) | .error e => .error e
/-- So many, one behind the other. -/
def rep {α : Type} (r : Rd α) : Nat → Rd (List α)
  | 0 => fun a => .ok ([], a)
  | k + 1 => fun a => match rep r k a with
    | .ok (l, a1) => match r a1 with | .ok (x, a2) => .ok (l ++ [x], a2) | .error e => .error e
    | .error e => .error e
def kindsR (s : List UInt8) (most cl : Int) : Rd (List Int) := fun a => match num s 1 (fun z => wi z 0 most) a with
  | .ok (n, a1) => rep (num s 1 fun z => wi z 0 cl) n.toNat a1
  | .error e => .error e
def insR (s : List UInt8) : Rd Ins := fun a => match num s 1 (fun _ => true) a with
  | .ok (o, a1) => match num s 8 (fun _ => true) a1 with
    | .ok (x, a2) => match num s 8 (fun _ => true) a2 with
      | .ok (y, a3) => .ok (⟨o, x, y⟩, a3)
      | .error e => .error e
    | .error e => .error e
  | .error e => .error e
theorem getF_le {s : List UInt8} {a many : Nat} {p : Int → Bool} {n : Int} (h : getF s a many p = .ok n) : p n = true ∧ a + many ≤ s.length := by
  unfold getF rd at h
  split at h
  · rename_i m hm
    split at hm
    · split at h
      · cases h; rename_i hp; exact ⟨hp, by assumption⟩
      · cases h
    · cases hm
  · cases h
theorem num_ok {s : List UInt8} {a b many : Nat} {p : Int → Bool} {n : Int} (h : num s many p a = .ok (n, b)) : p n = true ∧ b = a + many ∧ b ≤ s.length := by
  unfold num at h
  split at h
  · cases h
    obtain ⟨h1, h2⟩ := getF_le (by assumption)
    exact ⟨h1, rfl, h2⟩
  · cases h
/-- What a function that reads comes to: it goes on, or panics with a fault. -/
def RQ {α : Type} (r : Except Nat (α × Nat)) (A : α → Nat → Ending → List Heap → Prop) (e : Ending) (o : List Heap) : Prop :=
  match r with | .ok (x, b) => A x b e o | .error q => Pan q e o
theorem T_get {f : FuncId} {args : List Value} {hs : List Heap} {s : List UInt8} {a many : Nat} {p : Int → Bool} {B : Nat → List Heap} (h : SL.T Tryd.prog f args hs fun e o =>
      (∃ n, getF s a many p = .ok n ∧ a + many ≤ s.length ∧ e = .returned (i64 n) ∧ o = B (a + many)) ∨ (getF s a many p = .error a ∧ Pan a e o)) :
    SL.T Tryd.prog f args hs (RQ (num s many p a) fun n b e o => e = .returned (i64 n) ∧ o = B b) := by
  refine T.mono h fun e o h => ?_
  unfold RQ num
  rcases h with ⟨n, h1, h2, h3, h4⟩ | ⟨h1, h2⟩
  · rw [h1]; exact ⟨h3, h4⟩
  · rw [h1]; exact h2
theorem getf_calls (β : Nat) (s : List UInt8) (a many : Nat) (β1 β2 : Nat) (x y : Int) (hs : s.length ≤ 9223372036854775807) (ha : a ≤ s.length) (hm : many ≤ 8) :
    SL.T Tryd.prog 46 [ptr β, i64 (many : Int), .func (.func 64) #[] #[ptr β1, ptr β2]] [rdr β s a, blk β1 (.cells ⟨[i64 x]⟩ 3 (0, 0)), blk β2 (.cells ⟨[i64 y]⟩ 3 (0, 0))]
      (RQ (num s many (fun z => wi z x y) a) fun n b e o => e = .returned (i64 n) ∧ o = [rdr β s b, blk β1 (.cells ⟨[i64 x]⟩ 3 (0, 0)), blk β2 (.cells ⟨[i64 y]⟩ 3 (0, 0))]) :=
  T_get (B := fun b => [rdr β s b, blk β1 (.cells ⟨[i64 x]⟩ 3 (0, 0)), blk β2 (.cells ⟨[i64 y]⟩ 3 (0, 0))]) (get_from β s a many β1 β2 x y hs ha hm)
theorem getr_calls (β : Nat) (s : List UInt8) (a many : Nat) (hs : s.length ≤ 9223372036854775807) (ha : a ≤ s.length) (hm : many ≤ 8) :
    SL.T Tryd.prog 46 [ptr β, i64 (many : Int), .func (.func 74) #[] #[]] [rdr β s a]
      (RQ (num s many (fun _ => true) a) fun n b e o => e = .returned (i64 n) ∧ o = [rdr β s b]) :=
  T_get (B := fun b => [rdr β s b]) (get_free β s a many hs ha hm)
/-- A kind, by the closure f66. -/
theorem kind1_calls (βp β β2 : Nat) (s : List UInt8) (a : Nat) (cl : Int) (hs : s.length ≤ 9223372036854775807) (ha : a ≤ s.length) :
    SL.T Tryd.prog 66 [ptr βp, ptr β2] [blk βp (.cells ⟨[ptr β]⟩ 76 (0, 0)), blk β2 (.cells ⟨[i64 cl]⟩ 3 (0, 0)), rdr β s a]
      (RQ (num s 1 (fun z => wi z 0 cl) a) fun n b e o => e = .returned (i64 n) ∧ o = [blk βp (.cells ⟨[ptr β]⟩ 76 (0, 0)), blk β2 (.cells ⟨[i64 cl]⟩ 3 (0, 0)), rdr β s b]) := by
  have hg := fun b1 b2 => getf_calls β s a 1 b1 b2 0 cl hs ha (by decide)
  cases hn : num s 1 (fun z => wi z 0 cl) a with
  | ok r =>
    obtain ⟨n, b⟩ := r
    rw [hn] at hg
    refine t_of_body Tryd.func66 rfl (Nat.le_of_ble_eq_true rfl) fun F => ?_
    repeat' (first
      | refine swp_seq ?_
      | (refine gk 0 rfl ?_; first | refine sl_op rfl rfl rfl (by first | exact opv_assign rfl rfl ) ?_ )
      | refine sl_region rfl ?_
      | refine sl_nil ?_
      )
    refine DZ.sl_drawC [.q [0, 1], .h false 2, .h true 3, .q [4]] [] (by kernel_rfl) (by kernel_rfl) (by kernel_rfl) (by kernel_rfl) ?_
    repeat' (first
      | (refine gk 0 rfl ?_; first | refine sl_op rfl rfl rfl (by first | exact opv_assign rfl rfl ) ?_ )
      | (refine gk 3 rfl ?_; first | refine sl_op rfl rfl rfl (by first | exact opv_load rfl (by exact rfl) rfl (by exact rfl) ) ?_ )
      | refine DZ.chu_nil ?_
      | refine DZ.chu_q rfl ?_
      | (refine DZ.chu_T rfl rfl rfl rfl rfl rfl rfl rfl (from_calls 0 cl) (by rintro _ _ ⟨b1, b2, rfl, rfl⟩; exact ⟨_, rfl⟩) ?_; rintro _ _ ⟨b1, b2, rfl, rfl⟩; refine ⟨_, _, rfl, rfl, ?_⟩)
      | (refine DZ.chu_Tc rfl rfl rfl rfl rfl rfl rfl rfl (hg _ _) ?_; rintro _ _ ⟨rfl, rfl⟩; refine ⟨_, _, rfl, rfl, ?_⟩)
      | refine sl_nil ?_
      | refine thn_k ?_
      | refine swp_ret ?_
      )
    exact end_retW [blk βp (.cells ⟨[ptr β]⟩ 76 (0, 0)), blk β2 (.cells ⟨[i64 cl]⟩ 3 (0, 0)), rdr β s b] (resOk_one (resV_tmp rfl)) sub_perm ⟨rfl, rfl⟩
  | error q =>
    rw [hn] at hg
    refine t_of_body Tryd.func66 rfl (Nat.le_of_ble_eq_true rfl) fun F => ?_
    repeat' (first
      | refine swp_seq ?_
      | (refine gk 0 rfl ?_; first | refine sl_op rfl rfl rfl (by first | exact opv_assign rfl rfl ) ?_ )
      | refine sl_region rfl ?_
      | refine sl_nil ?_
      )
    refine DZ.sl_drawC [.q [0, 1], .h false 2, .h true 3, .q [4]] [] (by kernel_rfl) (by kernel_rfl) (by kernel_rfl) (by kernel_rfl) ?_
    repeat' (first
      | (refine gk 3 rfl ?_; first | refine sl_op rfl rfl rfl (by first | exact opv_load rfl (by exact rfl) rfl (by exact rfl) ) ?_ )
      | refine DZ.chu_q rfl ?_
      | (refine DZ.chu_T rfl rfl rfl rfl rfl rfl rfl rfl (from_calls 0 cl) (by rintro _ _ ⟨b1, b2, rfl, rfl⟩; exact ⟨_, rfl⟩) ?_; rintro _ _ ⟨b1, b2, rfl, rfl⟩; refine ⟨_, _, rfl, rfl, ?_⟩)
      | (refine DZ.chu_Z rfl rfl rfl rfl rfl rfl rfl rfl (hg _ _) (fun h => by cases h) (fun _ => .inl ⟨_, List.Perm.refl _⟩) ?_; rintro _ _ ⟨βf, rfl, rfl⟩; refine .inr ⟨_, _, rfl, rfl, ?_⟩; repeat (first | refine thn_panic ?_ ))
      | refine sl_nil ?_
      )
    exact pan_end ⟨_, rfl, rfl⟩
end Go.Proofs.YtjdjkcebflablaaDoor
