/- Bytes that are put one behind the other, walked. -/
import Derived.Test.YtjdjkcebflablaaDoorWE
import Derived.Test.YtjdjkcebflablaaDoorSlGa
set_option linter.unusedVariables false
set_option linter.unusedSimpArgs false
set_option linter.unusedSectionVars false
namespace Go.Proofs.YtjdjkcebflablaaDoor
open Go.SL
set_option maxRecDepth 100000
set_option maxHeartbeats 16000000
attribute [local irreducible] SL.T PFn OpV SOL SWP HOp ChU
-- ALIAS Tryd
/-- A number as a word. -/
def w64 (n : Int) : Nat := (IntKind.u64.wrap n).toNat
theorem w64_eq (n : Int) : IntKind.u64.wrap n = (w64 n : Int) := by
  obtain ⟨m, -, h⟩ := wrap_u64_nat n
  unfold w64; rw [h]; simp
theorem w64_lt (n : Int) : w64 n < 2 ^ 64 := by
  obtain ⟨m, h1, h⟩ := wrap_u64_nat n
  unfold w64; rw [h]; simpa using h1
/-- Its bytes, the lowest first. -/
def leB (w : Nat) : Nat → List UInt8
  | 0 => []
  | k + 1 => leB w k ++ [UInt8.ofNat (w >>> (8 * k))]
theorem leB_length (w : Nat) : ∀ k, (leB w k).length = k
  | 0 => rfl
  | k + 1 => by simp [leB, leB_length w k]
theorem byte_eq {w : Nat} (hw : w < 2 ^ 64) (j : Nat) : IntKind.u8.wrap (shr .u64 (w : Int) ((8 * j : Nat) : Int)) = ((UInt8.ofNat (w >>> (8 * j))).toNat : Int) := by
  rw [shr_nat _ hw]
  simp only [IntKind.wrap, IntKind.bits, IntKind.signed, Bool.false_and, Bool.false_eq_true, if_false]
  simp
theorem u8s_one (l : List UInt8) : (u8s l).all (·.oneCell') = true := by
  unfold u8s
  rw [List.all_map, List.all_eq_true]; intro x _; rfl
theorem end_retN {P : Program} {n : Nat} {fn : Func} {env : Env} {own own1 : List Heap} {ds : List Deferred} (hs : List Heap) {v : Value} {Q : Ending → List Heap → Prop} [m : Marks ds own own1] (hr : ResOk P fn.results.toList own1 env n v)
    (hw : ∀ F w, Sat (F :: own1) w → Sat (F :: hs) w) (hq : Q (.returned v) hs) : bodyQ P fn n Q .normal env own ds := ⟨v, own1, hs, m, hr, hw, hq⟩
structure SP where
  j : Nat
  h : Heap
  b : Option Addr
  c : Nat
theorem put_calls {h : Heap} {b : Option Addr} {len cap : Nat} {bs : List UInt8} (βw : Nat) (n : Int) (many : Nat) (lb : LB h b len cap 5 1 (u8s bs)) (hlen : len ≤ 17592186044416) (hmany : many ≤ 8) :
    SL.T Tryd.prog 19 [ptr βw, i64 n, i64 many] [blk βw (.cells ⟨[.slice b len cap]⟩ 65 (0, 0)), h] fun e o => ∃ h' b' c', e = .returned (.tuple #[]) ∧ o = [blk βw (.cells ⟨[.slice b' (len + many) c']⟩ 65 (0, 0)), h'] ∧ LB h' b' (len + many) c' 5 1 (u8s (bs ++ leB (w64 n) many)) := by
  have hw := w64_eq n
  have hlt := w64_lt n
  generalize w64 n = w at *
  refine t_of_body Tryd.func19 rfl (Nat.le_of_ble_eq_true rfl) fun F => ?_
  repeat' (first
    | refine swp_seq ?_
    | (refine gk 0 rfl ?_; first | refine sl_op rfl rfl rfl (by first | exact opv_move rfl rfl ) ?_ )
    | refine sl_region rfl ?_
    | refine sl_nil ?_
    | refine thn_k ?_
    | refine swp_block ?_
    )
  refine swp_loopS (fun s : SP => [(0, ptr βw), (1, i64 n), (7, i64 (many : Int)), (8, i64 (s.j : Int))])
    (fun s => [blk βw (.cells ⟨[.slice s.b (len + s.j) s.c]⟩ 65 (0, 0)), s.h])
    (fun s => s.j ≤ many ∧ LB s.h s.b (len + s.j) s.c 5 1 (u8s (bs ++ leB w s.j)))
    (fun s => many - s.j) ⟨0, h, b, cap⟩ (by repeat first | exact Sub.nil _ | refine Sub.cons rfl ?_) ⟨Nat.zero_le _, by simpa [leB] using lb⟩ ?_
  clear lb h b cap
  rintro ⟨j, h, b, cap⟩ ⟨hj, lb⟩
  dsimp only at hj lb ⊢
  by_cases hj2 : j < many
  · have hmul : Value.int .i64 (IntKind.i64.wrap (8 * (j : Int))) = i64 ((8 * j : Nat) : Int) := by rw [wrap64_id (by omega) (by omega)]; simp
    have hcv : Value.int .u64 (IntKind.u64.wrap n) = .int .u64 (w : Int) := by rw [hw]
    have hbyte : Value.int .u8 (IntKind.u8.wrap (shr .u64 (w : Int) ((8 * j : Nat) : Int))) = .int .u8 ((UInt8.ofNat (w >>> (8 * j))).toNat : Int) := by rw [byte_eq hlt]
    repeat' (first
      | refine swp_seq ?_
      | (refine gk 0 rfl ?_; first | refine sl_op rfl rfl rfl (by first | exact opv_move rfl rfl | exact opv_assign rfl rfl ) ?_ )
      | (refine gk 2 rfl ?_; first | refine sl_yes rfl rfl rfl (by first | exact opv_lss rfl rfl rfl ) (by first | omega ) ?_ )
      | refine sl_region rfl ?_
      | refine sl_nil ?_
      | refine thn_k ?_
      | refine swp_true rfl ?_
      | refine swp_block ?_
      | refine swp_skip ?_
      )
    refine sl_drawC [.f [0], .q [1, 2, 3, 4, 5, 6, 7, 8, 9, 10], .an 11, .rv 11, .h true 12, .q [13, 14], .h true 15] [] (by kernel_rfl) (by kernel_rfl) (by kernel_rfl) (by kernel_rfl) ?_
    repeat' (first
      | refine sl_op rfl rfl rfl ((opv_mul rfl rfl rfl).to hmul) ?_
      | refine sl_op rfl rfl rfl ((opv_convert rfl rfl).to hcv) ?_
      | refine sl_op rfl rfl rfl ((opv_convert rfl rfl).to hbyte) ?_
      | (refine gk 0 rfl ?_; first | refine sl_op rfl rfl rfl (by first | exact opv_move rfl rfl ) ?_ )
      | (refine gk 1 rfl ?_; first | refine sl_op rfl rfl rfl (by first | exact opv_add64 rfl rfl rfl (by omega) (by omega) | exact opv_shr rfl rfl rfl (by omega) ) ?_ )
      | (refine gk 3 rfl ?_; first | refine sl_op rfl rfl rfl (by first | exact opv_load rfl (by exact rfl) rfl (by exact rfl) | exact opv_fieldAddr rfl rfl ) ?_ )
      | (refine gk 5 rfl ?_; first | refine sl_op rfl rfl rfl (by first | exact opv_nilCheck rfl rfl ) ?_ )
      | refine sl_region rfl ?_
      | refine chu_nil ?_
      | refine chu_q rfl ?_
      | refine chu_f rfl ?_
      | refine chu_new rfl rfl (by first | exact new_buildSlice rfl rfl (by exact rfl) (by exact rfl) (by exact rfl) (by exact rfl) (by exact rfl)) ?_
      | refine chu_rv rfl rfl rfl (fun β => ?_)
      | refine chu_store rfl rfl rfl rfl rfl rfl (by exact rfl) rfl (by exact rfl) (by exact rfl) ?_
      | refine chu_appendL rfl rfl rfl rfl rfl rfl rfl rfl rfl lb (by decide) (by first | rfl ) (by decide) (by first | rfl ) (by omega) (by omega) (fun h' b' c' os' => ?_)
      | refine sl_nil ?_
      | refine thn_k ?_
      )
    have e1 : len + j + 1 = len + (j + 1) := by omega
    rw [e1] at os'
    refine ⟨rfl, ⟨j + 1, h', b', c'⟩, next_ok (by repeat first | exact Sub.nil _ | refine Sub.cons rfl ?_), ⟨by dsimp only; omega, ?_⟩, by dsimp only; omega⟩
    dsimp only
    rw [leB, ← List.append_assoc, u8s_append]
    exact .os os'
  · have e : j = many := by omega
    subst e
    repeat' (first
      | refine swp_seq ?_
      | (refine gk 2 rfl ?_; first | refine sl_no rfl rfl rfl (by first | exact opv_lss rfl rfl rfl ) (by first | omega ) ?_ )
      | refine sl_region rfl ?_
      | refine sl_nil ?_
      | refine swp_false rfl ?_
      | refine swp_exit ?_
      | refine thn_exit ?_
      | refine inb_exit ?_
      )
    exact end_retN [blk βw (.cells ⟨[.slice b (len + j) cap]⟩ 65 (0, 0)), h] resOk_nil (fun F w s => s) ⟨h, b, cap, rfl, rfl, lb⟩
/-- Kinds, how many first. -/
def kB (l : List Int) : List UInt8 := leB (w64 l.length) 1 ++ (l.map fun k => leB (w64 k) 1).flatten
theorem flatten_take_succ {α β : Type} (f : α → List β) {l : List α} {j : Nat} {x : α} (h : l[j]? = some x) : ((l.take (j + 1)).map f).flatten = ((l.take j).map f).flatten ++ f x := by
  rw [List.take_add_one, h]; simp
theorem kinds_calls (J : Heap) {h : Heap} {b : Option Addr} {len cap : Nat} {bs : List UInt8} (βw : Nat) (kb : Option Addr) (kn kc : Nat) (l : List Int) [Sl J kb (l.map i64)] (hl : l.length = kn) (hkn : kn ≤ 1000) (lb : LB h b len cap 5 1 (u8s bs)) (hlen : len ≤ 8796093022208) :
    SL.T Tryd.prog 20 [ptr βw, .slice kb kn kc] [J, blk βw (.cells ⟨[.slice b len cap]⟩ 65 (0, 0)), h] fun e o => ∃ h' b' c', e = .returned (.tuple #[]) ∧ o = [J, blk βw (.cells ⟨[.slice b' (len + (1 + kn)) c']⟩ 65 (0, 0)), h'] ∧ LB h' b' (len + (1 + kn)) c' 5 1 (u8s (bs ++ kB l)) := by
  have hp := put_calls βw kn 1 lb (by omega) (by omega)
  refine t_of_body Tryd.func20 rfl (Nat.le_of_ble_eq_true rfl) fun F => ?_
  repeat' (first
    | refine swp_seq ?_
    | (refine gk 0 rfl ?_; first | refine sl_op rfl rfl rfl (by first | exact opv_move rfl rfl ) ?_ )
    | (refine gk 4 rfl ?_; first | refine sl_op rfl rfl rfl (by first | exact opv_len rfl rfl rfl rfl rfl ) ?_ | (refine sl_callT rfl rfl rfl rfl rfl rfl rfl rfl (hp) ?_; rintro _ _ ⟨h1, b1, c1, rfl, rfl, lb1⟩; refine ⟨_, _, rfl, rfl, ?_⟩))
    | refine sl_region rfl ?_
    | refine sl_nil ?_
    | refine thn_k ?_
    | refine swp_block ?_
    )
  clear hp
  refine swp_loopS (fun s : SP => [(0, ptr βw), (1, .slice kb kn kc), (10, .slice kb kn kc), (11, i64 (kn : Int)), (12, i64 (s.j : Int))])
    (fun s => [J, blk βw (.cells ⟨[.slice s.b (len + 1 + s.j) s.c]⟩ 65 (0, 0)), s.h])
    (fun s => s.j ≤ kn ∧ LB s.h s.b (len + 1 + s.j) s.c 5 1 (u8s (bs ++ (leB (w64 kn) 1 ++ ((l.take s.j).map fun k => leB (w64 k) 1).flatten))))
    (fun s => kn - s.j) ⟨0, h1, b1, c1⟩ (by repeat first | exact Sub.nil _ | refine Sub.cons rfl ?_) ⟨Nat.zero_le _, by simpa using lb1⟩ ?_
  clear lb lb1 h h1 b b1 c1 cap
  rintro ⟨j, h, b, cap⟩ ⟨hj, lb⟩
  dsimp only at hj lb ⊢
  by_cases hj2 : j < kn
  · obtain ⟨x, hx⟩ : ∃ z, l[j]? = some z := ⟨_, List.getElem?_eq_getElem (by omega)⟩
    have hcx : (l.map i64)[((j : Nat) : Int).toNat * 1]? = some (i64 x) := by simp [hx]
    have hp := put_calls βw x 1 lb (by omega) (by omega)
    repeat' (first
      | refine swp_seq ?_
      | (refine gk 0 rfl ?_; first | refine sl_op rfl rfl rfl (by first | exact opv_move rfl rfl | exact opv_assign rfl rfl ) ?_ )
      | (refine gk 1 rfl ?_; first | refine sl_op rfl rfl rfl (by first | exact opv_add64 rfl rfl rfl (by omega) (by omega) ) ?_ )
      | (refine gk 2 rfl ?_; first | refine sl_yes rfl rfl rfl (by first | exact opv_lss rfl rfl rfl ) (by first | omega ) ?_ )
      | (refine gk 3 rfl ?_; first | refine sl_op rfl rfl rfl (by first | exact opv_indexAddrI rfl rfl rfl (by omega) (by omega) (by first | (simp only [List.length_map]; omega) ) | exact opv_loadEx rfl (by exact rfl) (by infer_instance) (by first | assumption ) ) ?_ )
      | (refine gk 4 rfl ?_; first | (refine sl_callT rfl rfl rfl rfl rfl rfl rfl rfl (hp) ?_; rintro _ _ ⟨h1, b1, c1, rfl, rfl, lb1⟩; refine ⟨_, _, rfl, rfl, ?_⟩))
      | refine sl_region rfl ?_
      | refine sl_nil ?_
      | refine thn_k ?_
      | refine swp_true rfl ?_
      | refine swp_block ?_
      | refine swp_skip ?_
      )
    refine ⟨rfl, ⟨j + 1, h1, b1, c1⟩, next_ok (by repeat first | exact Sub.nil _ | refine Sub.cons rfl ?_), ⟨by dsimp only; omega, ?_⟩, by dsimp only; omega⟩
    dsimp only
    have e3 : len + 1 + (j + 1) = len + 1 + j + 1 := by omega
    rw [flatten_take_succ _ hx, e3]
    simpa [List.append_assoc] using lb1
  · have e : j = kn := by omega
    subst e
    have e2 : len + 1 + j = len + (1 + j) := by omega
    rw [List.take_of_length_le (by omega), e2] at lb
    rw [e2]
    repeat' (first
      | refine swp_seq ?_
      | (refine gk 2 rfl ?_; first | refine sl_no rfl rfl rfl (by first | exact opv_lss rfl rfl rfl ) (by first | omega ) ?_ )
      | refine sl_region rfl ?_
      | refine sl_nil ?_
      | refine swp_false rfl ?_
      | refine swp_exit ?_
      | refine thn_exit ?_
      | refine inb_exit ?_
      )
    refine end_retN [J, blk βw (.cells ⟨[.slice b (len + (1 + j)) cap]⟩ 65 (0, 0)), h] resOk_nil (fun F w s => s) ⟨h, b, cap, rfl, rfl, ?_⟩
    rw [kB, hl]; exact lb
end Go.Proofs.YtjdjkcebflablaaDoor
