/- The document's answer: what may be laid, walked. -/
import Derived.Test.YtjdjkcebflablaaDoorWE3
set_option linter.unusedVariables false
set_option linter.unusedSimpArgs false
set_option linter.unusedSectionVars false
namespace Go.Proofs.YtjdjkcebflablaaDoor
open Go.SL
set_option maxRecDepth 100000
set_option maxHeartbeats 16000000
attribute [local irreducible] SL.T PFn OpV SOL SWP HOp ChU
-- ALIAS Tryd
-- USE_L4
-- USE_L1
theorem rput_calls (w many : Nat) (hw : w < 2 ^ 64) (hm : many ≤ 8) : PFn Tryd.prog 22 [.int .u64 (w : Int), i64 many] [] (str (leB w many)) := by
  refine pure_of_body Tryd.func22 rfl (Nat.le_of_ble_eq_true rfl) fun F => ?_
  repeat' (first
    | refine swp_seq ?_
    | (refine gk 0 rfl ?_; first | refine sl_op rfl rfl rfl (by first | exact opv_assign rfl rfl ) ?_ )
    | refine sl_region rfl ?_
    | refine sl_nil ?_
    | refine thn_k ?_
    | refine swp_block ?_
    )
  refine swp_loopS (fun j : Nat => [(0, .int .u64 (w : Int)), (1, i64 (many : Int)), (5, str (leB w j)), (6, i64 (j : Int))])
    (fun _ => []) (fun j => j ≤ many) (fun j => many - j) 0 (by repeat first | exact Sub.nil _ | refine Sub.cons rfl ?_) (Nat.zero_le _) ?_
  rintro j hj
  by_cases hj2 : j < many
  · have hmul : Value.int .i64 (IntKind.i64.wrap (8 * (j : Int))) = i64 ((8 * j : Nat) : Int) := by rw [wrap64_id (by omega) (by omega)]; simp
    have hbyte : Value.int .u8 (IntKind.u8.wrap (shr .u64 (w : Int) ((8 * j : Nat) : Int))) = .int .u8 ((UInt8.ofNat (w >>> (8 * j))).toNat : Int) := by rw [byte_eq hw]
    have hll := leB_length w j
    repeat' (first
      | refine sl_op rfl rfl rfl ((opv_mul rfl rfl rfl).to hmul) ?_
      | refine sl_op rfl rfl rfl ((opv_convert rfl rfl).to hbyte) ?_
      | refine sl_op rfl rfl rfl (opv_toStr (e := 5) (l := [UInt8.ofNat (w >>> (8 * j))]) rfl rfl (by infer_instance) rfl) ?_
      | refine sl_op rfl rfl rfl (opv_addS rfl rfl rfl (by simp only [List.length_cons, List.length_nil]; omega)) ?_
      | refine swp_seq ?_
      | (refine gk 0 rfl ?_; first | refine sl_op rfl rfl rfl (by first | exact opv_move rfl rfl | exact opv_assign rfl rfl ) ?_ )
      | (refine gk 1 rfl ?_; first | refine sl_op rfl rfl rfl (by first | exact opv_add64 rfl rfl rfl (by omega) (by omega) | exact opv_shr rfl rfl rfl (by omega) ) ?_ )
      | (refine gk 2 rfl ?_; first | refine sl_yes rfl rfl rfl (by first | exact opv_lss rfl rfl rfl ) (by first | omega ) ?_ )
      | (refine gk 5 rfl ?_; first | refine sl_buildSlice rfl rfl rfl rfl rfl (by exact rfl) (by exact rfl) (by exact rfl) (by exact rfl) rfl (fun b => ?_) )
      | refine sl_region rfl ?_
      | refine sl_nil ?_
      | refine thn_k ?_
      | refine swp_true rfl ?_
      | refine swp_block ?_
      | refine swp_skip ?_
      )
    exact ⟨rfl, j + 1, next_ok (by repeat first | exact Sub.nil _ | refine Sub.cons rfl ?_), by omega, by omega⟩
  · have e : j = many := by omega
    subst e
    repeat' (first
      | refine swp_seq ?_
      | (refine gk 0 rfl ?_; first | refine sl_op rfl rfl rfl (by first | exact opv_move rfl rfl | exact opv_assign rfl rfl ) ?_ )
      | (refine gk 2 rfl ?_; first | refine sl_no rfl rfl rfl (by first | exact opv_lss rfl rfl rfl ) (by first | omega ) ?_ )
      | refine sl_region rfl ?_
      | refine sl_nil ?_
      | refine thn_k ?_
      | refine swp_false rfl ?_
      | refine swp_ret ?_
      | refine swp_exit ?_
      )
    refine end_pure (resOk_one (resV_tmp rfl)) ?_
    rfl
theorem rkinds_calls (J : Heap) (b : Option Addr) (n c : Nat) (zs : List Int) (cl : Int) [Sl J b (zs.map i64)] (h1 : zs.length = n) (hsm : n ≤ 9223372036854775807) :
    PFn Tryd.prog 41 [.slice b n c, i64 cl] [J] (.bool (!zs.any (kno cl))) := by
  refine pure_of_body Tryd.func41 rfl (Nat.le_of_ble_eq_true rfl) fun F => ?_
  repeat' (first
    | refine swp_seq ?_
    | (refine gk 0 rfl ?_; first | refine sl_op rfl rfl rfl (by first | exact opv_assign rfl rfl ) ?_ )
    | refine sl_region rfl ?_
    | refine sl_nil ?_
    | refine thn_k ?_
    | refine swp_block ?_
    )
  refine swp_loopS (fun j : Nat => [(0, .slice b n c), (1, i64 cl), (5, i64 (j : Int))])
    (fun _ => [J]) (fun j => j ≤ n ∧ ∀ y ∈ zs.take j, kno cl y = false) (fun j => n - j) 0 (by repeat first | exact Sub.nil _ | refine Sub.cons rfl ?_) ⟨Nat.zero_le _, by simp⟩ ?_
  rintro j ⟨hj1, hj2⟩
  by_cases hj : j < n
  · obtain ⟨x, hx⟩ : ∃ z, zs[j]? = some z := ⟨_, List.getElem?_eq_getElem (by omega)⟩
    have hcx : (zs.map i64)[((j : Nat) : Int).toNat * 1]? = some (i64 x) := by simp [hx]
    by_cases hp : 0 ≤ x ∧ x ≤ cl
    · obtain ⟨hp1, hp2⟩ := hp
      repeat' (first
        | refine swp_seq ?_
        | (refine gk 0 rfl ?_; first | refine sl_op rfl rfl rfl (by first | exact opv_move rfl rfl | exact opv_assign rfl rfl | exact opv_pick_f rfl rfl rfl ) ?_ )
        | (refine gk 1 rfl ?_; first | refine sl_op rfl rfl rfl (by first | exact opv_add64 rfl rfl rfl (by omega) (by omega) ) ?_ )
        | (refine gk 2 rfl ?_; first | refine sl_yes rfl rfl rfl (by first | exact opv_lss rfl rfl rfl | exact opv_gtr rfl rfl rfl ) (by first | omega ) ?_ | refine sl_no rfl rfl rfl (by first | exact opv_lss rfl rfl rfl | exact opv_gtr rfl rfl rfl ) (by first | omega ) ?_ )
        | (refine gk 3 rfl ?_; first | refine sl_op rfl rfl rfl (by first | exact opv_indexAddrI rfl rfl rfl (by omega) (by omega) (by first | (simp only [List.length_map]; omega) ) | exact opv_loadEx rfl (by exact rfl) (by infer_instance) (by first | assumption ) ) ?_ )
        | (refine gk 4 rfl ?_; first | refine sl_op rfl rfl rfl (by first | exact opv_len rfl rfl rfl rfl rfl ) ?_)
        | refine sl_region rfl ?_
        | refine sl_nil ?_
        | refine thn_k ?_
        | refine swp_true rfl ?_
        | refine swp_false rfl ?_
        | refine swp_block ?_
        | refine swp_skip ?_
        )
      exact ⟨rfl, j + 1, next_ok (by repeat first | exact Sub.nil _ | refine Sub.cons rfl ?_), ⟨by omega, take_snoc hj2 hx (by simp [kno, wi, hp1, hp2])⟩, by omega⟩
    · have ha : zs.any (kno cl) = true := List.any_eq_true.2 ⟨x, List.mem_of_getElem? hx, by simp [kno, wi]; omega⟩
      repeat' (first
        | refine swp_seq ?_
        | (refine gk 0 rfl ?_; first | refine sl_op rfl rfl rfl (by first | exact opv_move rfl rfl | exact opv_assign rfl rfl | exact opv_pick_t rfl rfl rfl | exact opv_pick_f rfl rfl rfl ) ?_ | refine sl_pass rfl rfl rfl rfl ?_)
        | (refine gk 2 rfl ?_; first | refine sl_pass rfl rfl rfl rfl ?_ | refine sl_yes rfl rfl rfl (by first | exact opv_lss rfl rfl rfl | exact opv_gtr rfl rfl rfl ) (by first | omega ) ?_ | refine sl_if rfl rfl rfl (by first | exact opv_lss rfl rfl rfl ) (fun h => ?_) (fun h => ?_) )
        | (refine gk 3 rfl ?_; first | refine sl_op rfl rfl rfl (by first | exact opv_indexAddrI rfl rfl rfl (by omega) (by omega) (by first | (simp only [List.length_map]; omega) ) | exact opv_loadEx rfl (by exact rfl) (by infer_instance) (by first | assumption ) ) ?_ | refine sl_pass rfl rfl rfl rfl ?_)
        | (refine gk 4 rfl ?_; first | refine sl_op rfl rfl rfl (by first | exact opv_len rfl rfl rfl rfl rfl ) ?_)
        | refine sl_region rfl ?_
        | refine sl_nil ?_
        | refine thn_k ?_
        | refine swp_true rfl ?_
        | refine swp_block ?_
        | refine swp_ret ?_
        | refine swp_skip ?_
        | refine thn_ret ?_
        | refine inb_ret ?_
        )
      · refine end_pure (resOk_one (resV_tmp rfl)) ?_
        rw [ha]; rfl
      · refine end_pure (resOk_one (resV_tmp rfl)) ?_
        rw [ha]; rfl
  · repeat' (first
      | refine swp_seq ?_
      | (refine gk 0 rfl ?_; first | refine sl_op rfl rfl rfl (by first | exact opv_move rfl rfl | exact opv_assign rfl rfl ) ?_ )
      | (refine gk 2 rfl ?_; first | refine sl_no rfl rfl rfl (by first | exact opv_lss rfl rfl rfl ) (by first | omega ) ?_ )
      | (refine gk 4 rfl ?_; first | refine sl_op rfl rfl rfl (by first | exact opv_len rfl rfl rfl rfl rfl ) ?_)
      | refine sl_region rfl ?_
      | refine sl_nil ?_
      | refine thn_k ?_
      | refine swp_false rfl ?_
      | refine swp_ret ?_
      | refine swp_exit ?_
      )
    refine end_pure (resOk_one (resV_tmp rfl)) ?_
    rw [List.take_of_length_le (by omega)] at hj2
    rw [show zs.any (kno cl) = false from List.any_eq_false.2 fun x hx => by simp [hj2 x hx]]; rfl
/-- The document's test of a class, and of a method. -/
def okC (cl : Int) (f : List Int) : Prop := f.length ≤ 8 ∧ f.any (kno cl) = false
def okM1 (cl : Int) (m : Me) : Prop := (m.params.length : Int) ≤ m.lo ∧ m.lo ≤ 16 ∧ 0 ≤ m.st ∧ m.st ≤ 32 ∧ 1 ≤ m.code.length ∧ m.code.length ≤ 256 ∧ m.params.any (kno cl) = false
def okM (cl : Int) (m : Me) : Prop := okM1 cl m ∧ m.code.any opno = false
theorem clno_iff {cl : Int} {f : List Int} : clno cl f = false ↔ okC cl f := by
  unfold clno rightF okC
  rw [Bool.not_eq_false', Bool.and_eq_true, Bool.not_eq_true', decide_eq_true_eq]
  constructor
  · rintro ⟨h1, h2⟩; exact ⟨by omega, h2⟩
  · rintro ⟨h1, h2⟩; exact ⟨by omega, h2⟩
theorem meno_iff {cl : Int} {m : Me} : meno cl m = false ↔ okM cl m := by
  unfold meno methodF rightF okM okM1 wi
  rw [Bool.not_eq_false']
  simp only [Bool.and_eq_true, Bool.not_eq_true', decide_eq_true_eq]
  constructor
  · rintro ⟨⟨h1, h2⟩, ⟨h3, h4⟩, ⟨h5, h6⟩, ⟨h7, h8⟩, h9⟩
    exact ⟨⟨h3, h4, h5, h6, by omega, by omega, h2⟩, h9⟩
  · rintro ⟨⟨h3, h4, h5, h6, h7, h8, h2⟩, h9⟩
    exact ⟨⟨by omega, h2⟩, ⟨h3, h4⟩, ⟨h5, h6⟩, ⟨by omega, by omega⟩, h9⟩
theorem mayF_iff {x : Im} : mayF x = true ↔ x.cls.length ≤ 16 ∧ 1 ≤ x.ms.length ∧ x.ms.length ≤ 32 ∧ (∀ m, x.ms[0]? = some m → m.params.length = 0) ∧ (∀ f ∈ x.cls, okC x.cls.length f) ∧ ∀ m ∈ x.ms, okM x.cls.length m := by
  unfold mayF
  simp only [Bool.and_eq_true, decide_eq_true_eq, Bool.not_eq_true']
  have ec : x.cls.any (clno x.cls.length) = false ↔ ∀ f ∈ x.cls, okC x.cls.length f := by
    rw [List.any_eq_false]
    exact ⟨fun h f hf => clno_iff.1 (by simpa using h f hf), fun h f hf => by rw [clno_iff.2 (h f hf)]; simp⟩
  have em : x.ms.any (meno x.cls.length) = false ↔ ∀ m ∈ x.ms, okM x.cls.length m := by
    rw [List.any_eq_false]
    exact ⟨fun h f hf => meno_iff.1 (by simpa using h f hf), fun h f hf => by rw [meno_iff.2 (h f hf)]; simp⟩
  rw [ec, em]
  unfold wi
  simp only [decide_eq_true_eq]
  constructor
  · rintro ⟨h1, ⟨h2, h3⟩, h4, h5, h6⟩
    refine ⟨by omega, by omega, by omega, fun m hm => ?_, h5, h6⟩
    rw [hm] at h4
    simp only [methodF, rightF, Bool.and_eq_true, decide_eq_true_eq] at h4
    have := h4.1.1
    omega
  · rintro ⟨h1, h2, h3, h4, h5, h6⟩
    refine ⟨by omega, ⟨by omega, by omega⟩, ?_, h5, h6⟩
    obtain ⟨m, hm⟩ : ∃ z, x.ms[0]? = some z := ⟨_, List.getElem?_eq_getElem (by omega)⟩
    have g1 := h4 m hm
    have g2 := meno_iff.2 (h6 m (List.mem_of_getElem? hm))
    rw [hm]
    simp only
    unfold meno methodF at g2
    unfold methodF
    rw [Bool.not_eq_false'] at g2
    simp only [Bool.and_eq_true] at g2 ⊢
    refine ⟨?_, g2.2⟩
    have := g2.1
    unfold rightF at this ⊢
    simp only [Bool.and_eq_true, decide_eq_true_eq] at this ⊢
    exact ⟨by omega, this.2⟩
end Go.Proofs.YtjdjkcebflablaaDoor
