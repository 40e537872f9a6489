/- Closed calls, run by the kernel: memory that turns. -/
import Derived.Test.YtnfepffmlhmmhaaSlV7
set_option linter.unusedVariables false
set_option linter.unusedSimpArgs false
namespace Go.SL
noncomputable section

/-- What an operation comes to: a value, a heap; new numbers for new blocks. -/
def Post (ρ : Rn) (v : VV) (H : VH) (nx : Nat) : Value → List Heap → Prop := fun x own => ∃ ρ', Ext ρ ρ' ∧ Fresh ρ' nx ∧ den ρ' v = some x ∧ denH ρ' H = some own

section
variable {P : Program} {ρ : Rn} {E : VE} {env : Env} {H : VH} {own hs : List Heap} {n nx : Nat} {o : Oper}

theorem hop_new {k : NK} {vo : VO} (hf : Fresh ρ nx) (hH : denH ρ H = some own) (h : NewOk P ρ n o env k vo) : HOp P own n o env (Post ρ (k.vv nx) ((nx, vo) :: H) (nx + 1)) := by
  obtain ⟨ob, h1, h2, h3, h4⟩ := h
  refine ⟨h2, fun a w X ha hs => ⟨{ w with heap := w.heap.push ob }, .inl ⟨k.val w.heap.size, blk w.heap.size ob :: own, h4 a w ha, sat_alloc hs ob h3, ?_⟩⟩⟩
  let i : BI := { blk := w.heap.size, pre := [], post := [], cap := 0, sz := 0 }
  have hi : putR ρ nx i nx = some i := putR_self ..
  have he := putR_ext hf i
  exact ⟨putR ρ nx i, he, putR_fresh hf i, NK.den hi rfl k, denH_mk hi (denO_ext he (h1 i rfl rfl rfl)) (denH_ext he hH)⟩
theorem hop_quiet {v : VV} (hf : Fresh ρ nx) (hH : denH ρ H = some own) (h : ∃ x, den ρ v = some x ∧ OpV P own n o env x) : HOp P own n o env (Post ρ v H nx) := by
  obtain ⟨x, h1, h2, h3⟩ := h
  refine ⟨h2, fun a w X ha hs => ?_⟩
  obtain ⟨w', s', hr⟩ := h3 a w X ha hs
  have hp : Post ρ v H nx x own := ⟨ρ, Ext.refl ρ, hf, h1, hH⟩
  refine ⟨w', ?_⟩
  rcases hr with hr | ⟨hr, rfl⟩ | ⟨f, args, hr, hc⟩
  · exact .inl ⟨x, own, hr, s', hp⟩
  · exact .inr (.inl ⟨own, hr, s', hp⟩)
  · exact .inr (.inr (.inl ⟨f, args, hr, hc.mono fun e w'' ⟨he, s2⟩ => ⟨x, own, he, s2, hp⟩⟩))

/-! ### Stores -/
def oneV : VV → Bool
  | .lit v => v.oneCell'
  | .agg _ | .tup _ => false
  | _ => true
def oneVs : List VV → Bool
  | [] => true
  | v :: l => match oneV v with
    | true => oneVs l
    | false => false
theorem oneV_ok {v : VV} {x : Value} (h : den ρ v = some x) (ho : oneV v = true) : x.oneCell' = true := by
  cases v with
  | lit v => cases h; exact ho
  | agg l => cases ho
  | tup l => cases ho
  | ptr b off => obtain ⟨i, -, rfl⟩ := den_ptr h; rfl
  | slc b off len c => obtain ⟨i, -, -, rfl⟩ := den_slc h; rfl
  | fn f a c => obtain ⟨xs, ys, -, -, rfl⟩ := den_fn h; rfl
  | ifc t v => obtain ⟨y, -, rfl⟩ := den_ifc h; rfl
  | mp b => obtain ⟨i, -, rfl⟩ := den_mp h; rfl
  | tl b off d m sz => obtain ⟨i, -, -, rfl⟩ := den_tl h; rfl
  | yl b => obtain ⟨i, -, rfl⟩ := den_yl h; rfl
theorem oneVs_ok : ∀ {l : List VV} {xs : List Value}, denL ρ l = some xs → oneVs l = true → ∀ x ∈ xs, x.oneCell' = true
  | [], xs, h, _ => by cases h; intro x hx; cases hx
  | v :: l, xs, h, ho => by
    obtain ⟨y, ys, h1, h2, rfl⟩ := denL_cons h
    simp only [oneVs] at ho
    split at ho
    · rename_i h3
      intro x hx
      rcases List.mem_cons.1 hx with rfl | hx
      · exact oneV_ok h1 h3
      · exact oneVs_ok h2 ho x hx
    · cases ho
/-- Cells put into a block. -/
def putCells (H : VH) (b off : Nat) (m : List VV) : Option VH := match getH H b with
  | some (.cells l T) => match oneVs m, spliceO l off m with
    | true, some l' => setH H b (.cells l' T)
    | _, _ => none
  | _ => none
theorem splice_row {p q xs ys zs : List Value} {off : Nat} (h : spliceO xs off ys = some zs) :
    (p ++ xs ++ q).take (p.length + off) ++ ys ++ (p ++ xs ++ q).drop (p.length + off + ys.length) = p ++ zs ++ q ∧ zs.length = xs.length := by
  obtain ⟨rfl, h2⟩ := spliceO_eq h
  constructor
  · rw [List.append_assoc p xs q, List.take_append, List.take_of_length_le (by omega), Nat.add_sub_cancel_left, List.take_append_of_le_length (by omega)]
    rw [List.drop_append, List.drop_of_length_le (by omega), List.nil_append, show p.length + off + ys.length - p.length = off + ys.length by omega, List.drop_append_of_le_length h2]
    simp [List.append_assoc]
  · simp; omega
theorem putCells_ok {b off : Nat} {m : List VV} {ys : List Value} {H' : VH} {i : BI} (hH : denH ρ H = some own) (hm : denL ρ m = some ys) (hi : ρ b = some i) (h : putCells H b off m = some H') :
    ∃ own', denH ρ H' = some own' ∧ ∀ w X, Sat (own ++ X) w → ∃ w', (storeCells (i.at off) ys).run P w = .ok () w' ∧ Sat (own' ++ X) w' := by
  unfold putCells at h
  split at h
  · rename_i l T hg
    split at h
    · rename_i l' h1 h2
      obtain ⟨j, ob, g1, g2, g3⟩ := getH_den hH hg
      rw [hi] at g1; cases g1
      obtain ⟨xs, q1, q2, rfl⟩ := denO_cells g2
      obtain ⟨zs, q3, q4⟩ := denL_splice q1 hm h2
      obtain ⟨r1, r2⟩ := splice_row (p := i.pre) (q := i.post) q3
      have g5 := denO_cells_mk (i := i) (T := T) q4 (by rw [r2]; exact q2)
      obtain ⟨own', rest, k1, k2, k3⟩ := setH_den hH hg h hi g2 g5
      refine ⟨own', k1, fun w X s => ?_⟩
      have hb : w.heap[i.blk]? = some (.cells ⟨i.pre ++ xs ++ i.post⟩ T (0, 0)) := s.at (List.mem_append.2 (.inl g3)) (blk_self _ _)
      have hlen := (spliceO_eq q3).2
      have hst := run_storeCells_at P i.blk (i.pre.length + off) T ys 0 ⟨i.pre ++ xs ++ i.post⟩ w hb (by simp; omega) (oneVs_ok hm h1)
      have hrow : ((⟨i.pre ++ xs ++ i.post⟩ : Array Value).toList.take (i.pre.length + off + 0) ++ ys ++ (⟨i.pre ++ xs ++ i.post⟩ : Array Value).toList.drop (i.pre.length + off + 0 + ys.length)).toArray = ⟨i.pre ++ zs ++ i.post⟩ := by
        rw [Nat.add_zero]; exact congrArg List.toArray r1
      rw [hrow] at hst
      refine ⟨_, hst, ?_⟩
      have s1 : Sat (blk i.blk (.cells ⟨i.pre ++ xs ++ i.post⟩ T (0, 0)) :: (rest ++ X)) w := s.perm (k2.append_right X)
      have s2 := s1.put (setRow_heap w i.blk _ ⟨i.pre ++ zs ++ i.post⟩ T (0, 0) hb) (by rfl) (by rfl) (fun k hk => setRow_other w i.blk k _ hk) (fun _ => rfl)
      exact s2.perm (k3.append_right X).symm
    · cases h
  · cases h
def storeV (P : Program) (E : VE) (H : VH) (t : TypeId) (x y : Operand) : Option VH := match evV E x, evV E y with
  | some (.ptr b off), some u => match sizeV P t with
    | some s => match Nat.beq (cellsV u).length s with
      | true => putCells H b off (cellsV u)
      | false => none
    | none => none
  | _, _ => none
theorem storeV_ok {t : TypeId} {x y : Operand} {H' : VH} (hf : Fresh ρ nx) (he : denEnv ρ E = some env) (hH : denH ρ H = some own) (ho : o.op = .store t x y) (h : storeV P E H t x y = some H') : HOp P own n o env (Post ρ (.lit undef) H' nx) := by
  unfold storeV at h
  split at h
  · rename_i b off u hx hy
    split at h
    · rename_i s hs
      split at h
      · rename_i hb
        obtain ⟨v1, g1, g2⟩ := evV_den he hx
        obtain ⟨v2, g3, g4⟩ := evV_den he hy
        obtain ⟨i, hi, rfl⟩ := den_ptr g2
        obtain ⟨ys, g5, g6⟩ := cellsV_den g4
        obtain ⟨own', k1, k2⟩ := putCells_ok (P := P) hH g6 hi h
        refine ⟨by rw [ho]; rfl, fun a w X ha sat => ?_⟩
        obtain ⟨w', r1, r2⟩ := k2 w X sat
        refine ⟨w', .inr (.inl ⟨own', ?_, r2, ρ, Ext.refl ρ, hf, rfl, k1⟩)⟩
        have hsz : ys.length = s := by rw [denL_length g6]; exact Nat.eq_of_beq_eq_true hb
        simp [execOp, ho, Instr.storeAt, ha.eval g1, ha.eval g3, Instr.sureAddr, storeVar, sizeV_ok hs, cellsO_eq g5, hsz, r1]
      · cases h
    · cases h
  · cases h
end
end
end Go.SL
