/- Methods that are drawn: a piece, walked. -/
import Derived.Test.YtifhhfeibnpaoaaWD2
namespace Go.Proofs.Ytifhhfeibnpaoaa
open Go.SL
set_option maxRecDepth 100000
set_option maxHeartbeats 16000000
/-- What a piece is left as. -/
def PQ (J : Heap) (βd : Nat) (bb : Option Addr) (bl bc : Nat) (odd at8 x0 x1 : Value) (p : List Ins) (v : Int) (e : Ending) (o : List Heap) : Prop :=
  ∃ hP b c, o = [dBlk βd bb bl bc odd at8 x0 x1 v, J, hP] ∧ e = .returned (.slice b p.length c) ∧ OS hP b p.length c 29 3 (flatI p)
theorem pv {own : List Heap} {h : Heap} {b : Option Addr} {n c : Nat} {l : List Ins} (os : OS h b n c 29 3 (flatI l)) (hn : n = l.length) (hm : h ∈ own) : PV own (.slice b n c) l := by
  subst hn; exact ⟨b, c, rfl, ⟨h, hm, os.sl⟩⟩
theorem okA {ls : List (List Ins)} (h : ∀ l ∈ ls, Fit 100 20000 l) (hn : ls.length ≤ 5) : ls.flatten.length ≤ 1000 ∧ ∀ l ∈ ls, ∀ x ∈ l, -1000000 ≤ x.2.1 ∧ x.2.1 ≤ 1000000 := by
  constructor
  · have : ∀ (ls : List (List Ins)), (∀ l ∈ ls, Fit 100 20000 l) → ls.flatten.length ≤ ls.length * 100 := by
      intro ls
      induction ls with
      | nil => intro _; simp
      | cons p r ih =>
        intro h
        have := ih (fun l hl => h l (List.mem_cons_of_mem _ hl))
        have := (h p (List.mem_cons_self ..)).len
        rw [List.flatten_cons, List.length_append, List.length_cons]; omega
    have := this ls h; omega
  · intro l hl x hx
    have := (h l hl).small x hx
    omega
theorem pieceF_fit2 {B : List Int} (hB : ∀ x ∈ B, 0 ≤ x ∧ x ≤ 255) (d : Nat) (a fr : Int) (hm : mostL d ≤ 100) (h0 : 0 ≤ fr) (h1 : fr + d ≤ 20) : Fit 100 20000 (pieceF B d a fr).1 :=
  (pieceF_fit hB d a fr hm h0 h1).mono hm (by omega)
theorem fit1 {op a b : Int} (h : -20000 ≤ a ∧ a ≤ 20000) : Fit 100 20000 [(op, a, b)] := (Fit.one (A := 20000) (by omega)).mono (by omega) (Nat.le_refl _)
section
variable {P : Program} {own : List Heap} {n : Nat} {env : Env} {o : Oper}
theorem opv_neg64 {x : Operand} {a : Int} {t : TypeId} (ho : o.op = .unOp .neg t x) (h : ev env x = some (.int .i64 a)) (h1 : -9223372036854775808 ≤ -a) (h2 : -a ≤ 9223372036854775807) : OpV P own n o env (.int .i64 (-a)) :=
  opv_run (by rw [ho]; rfl) fun a w ha => by simp [execOp, ho, ha.eval h, Op.unary, Op.intArith, Int.zero_sub, wrap64_id h1 h2]
end
attribute [local irreducible] SL.T PFn OpV SOL SWP HOp ChU
set_option linter.unusedVariables false
section
variable (J : Heap) (βd : Nat) (bb : Option Addr) (bl bc : Nat) (odd at8 x0 x1 : Value) (B : List Int) [Sl J bb (B.map u8)] (hl : B.length = bl) (hB : ∀ x ∈ B, 0 ≤ x ∧ x ≤ 255)
include hl hB
theorem piece_0 (a fr : Int) (h0 : 0 ≤ a) (hsm : a ≤ 100000) :
    SL.T Try.prog 21 [.pointer (some ⟨βd, 0, none⟩), i64 0, i64 fr] [dBlk βd bb bl bc odd at8 x0 x1 a, J] (PQ J βd bb bl bc odd at8 x0 x1 (joinF 0 [[(0, nextV B a % 3, 0)], [(19, 0, 0)]]) (a + 1)) := by
  have hb0 := nextV_byte hB a
  obtain ⟨hF1, hF2⟩ := okA (ls := [[(0, nextV B a % 3, 0)], [(19, 0, 0)]]) (by
    intro l hl
    simp only [List.mem_cons, List.not_mem_nil, or_false] at hl
    rcases hl with rfl | rfl <;> first | exact hp | exact hq | exact fit1 (by omega)) (by simp)
  refine t_of_body Try.func21 rfl (Nat.le_of_ble_eq_true rfl) fun F => ?_
  repeat' (first
    | refine sl_op rfl rfl rfl (opv_remE rfl rfl rfl (by omega) (by omega)) ?_
    | refine swp_seq ?_
    | (refine gk 0 rfl ?_; first | refine sl_op rfl rfl rfl (by first | exact opv_move rfl rfl | exact opv_assign rfl rfl ) ?_ )
    | (refine gk 2 rfl ?_; first | refine sl_yes rfl rfl rfl (by first | exact opv_eql rfl rfl rfl ) (by first | omega ) ?_ )
    | (refine gk 4 rfl ?_; first | (refine sl_callT rfl rfl rfl rfl rfl rfl rfl rfl (next_calls J βd bb bl bc odd at8 x0 x1 (a) B hl hB (by omega) (by omega)) ?_; rintro _ _ ⟨rfl, rfl⟩; refine ⟨_, _, rfl, rfl, ?_⟩) | (refine sl_callT rfl rfl rfl rfl rfl rfl rfl rfl (one_calls _ _) ?_; rintro _ _ ⟨hO, bO, rfl, rfl, slO⟩; haveI := slO.sl; refine ⟨_, _, rfl, rfl, ?_⟩) | (refine sl_callW rfl rfl rfl rfl rfl rfl rfl rfl (join_W _ _ _ _ _ [[(0, nextV B a % 3, 0)], [(19, 0, 0)]] (by repeat (first | exact PVs.nil | refine PVs.cons ⟨_, _, rfl, inferInstance⟩ ?_)) rfl (by simp) (Nat.le_trans hF1 (Nat.le_of_ble_eq_true rfl)) hF2) ?_; rintro _ _ ⟨hJ, bJ, cJ, rfl, rfl, osJ⟩; refine ⟨_, _, rfl, rfl, ?_⟩))
    | (refine gk 5 rfl ?_; first | refine sl_buildSlice rfl rfl rfl rfl rfl (by exact rfl) (by exact rfl) (by exact rfl) (by exact rfl) rfl (fun b => ?_) )
    | refine sl_region rfl ?_
    | refine sl_nil ?_
    | refine thn_k ?_
    | refine swp_true rfl ?_
    | refine swp_ret ?_
    | refine thn_ret ?_
    )
  exact end_retL [dBlk βd bb bl bc odd at8 x0 x1 (a + 1), J, hJ] (resOk_one (resV_tmp rfl)) ⟨hJ, bJ, cJ, rfl, rfl, osJ⟩
theorem piece_lock0 (a fr dz : Int) (h0 : 0 ≤ a) (hsm : a ≤ 100000) (hdz : 0 < dz) (hdz2 : dz ≤ 20) (hfr : 0 ≤ fr) (hfr2 : fr ≤ 20) (hx : nextV B a % 7 = 0) (p : List Ins) (vp : Int) (ip1 : SL.T Try.prog 21 [.pointer (some ⟨βd, 0, none⟩), i64 (dz - 1), i64 (fr + 1)] [dBlk βd bb bl bc odd at8 x0 x1 (a + 1), J] (PQ J βd bb bl bc odd at8 x0 x1 p vp)) (hp : Fit 100 20000 p) (hvp : 0 ≤ vp ∧ vp ≤ 100000) :
    SL.T Try.prog 21 [.pointer (some ⟨βd, 0, none⟩), i64 dz, i64 fr] [dBlk βd bb bl bc odd at8 x0 x1 a, J] (PQ J βd bb bl bc odd at8 x0 x1 (joinF 0 [[(2, fr, 0)], [(12, 0, 0)], p, [(2, fr, 0)], [(13, 0, 0)]]) (vp)) := by
  have hb0 := nextV_byte hB a
  obtain ⟨hF1, hF2⟩ := okA (ls := [[(2, fr, 0)], [(12, 0, 0)], p, [(2, fr, 0)], [(13, 0, 0)]]) (by
    intro l hl
    simp only [List.mem_cons, List.not_mem_nil, or_false] at hl
    rcases hl with rfl | rfl | rfl | rfl | rfl <;> first | exact hp | exact hq | exact fit1 (by omega)) (by simp)
  refine t_of_body Try.func21 rfl (Nat.le_of_ble_eq_true rfl) fun F => ?_
  repeat' (first
    | refine sl_op rfl rfl rfl (opv_remE rfl rfl rfl (by omega) (by omega)) ?_
    | refine swp_seq ?_
    | (refine gk 0 rfl ?_; first | refine sl_op rfl rfl rfl (by first | exact opv_move rfl rfl | exact opv_assign rfl rfl ) ?_ )
    | (refine gk 1 rfl ?_; first | refine sl_op rfl rfl rfl (by first | exact opv_add64 rfl rfl rfl (by omega) (by omega) | exact opv_sub64 rfl rfl rfl (by omega) (by omega) ) ?_ )
    | (refine gk 2 rfl ?_; first | refine sl_yes rfl rfl rfl (by first | exact opv_eql rfl rfl rfl ) (by first | omega ) ?_ | refine sl_no rfl rfl rfl (by first | exact opv_eql rfl rfl rfl ) (by first | omega ) ?_ )
    | (refine gk 4 rfl ?_; first | (refine sl_callT rfl rfl rfl rfl rfl rfl rfl rfl (next_calls J βd bb bl bc odd at8 x0 x1 (a) B hl hB (by omega) (by omega)) ?_; rintro _ _ ⟨rfl, rfl⟩; refine ⟨_, _, rfl, rfl, ?_⟩) | (refine sl_callT rfl rfl rfl rfl rfl rfl rfl rfl (one_calls _ _) ?_; rintro _ _ ⟨hO, bO, rfl, rfl, slO⟩; haveI := slO.sl; refine ⟨_, _, rfl, rfl, ?_⟩) | (refine sl_callT rfl rfl rfl rfl rfl rfl rfl rfl (ip1) ?_; rintro _ _ ⟨hP1, bP1, cP1, rfl, rfl, osP1⟩; haveI := osP1.sl; refine ⟨_, _, rfl, rfl, ?_⟩) | (refine sl_callW rfl rfl rfl rfl rfl rfl rfl rfl (join_W _ _ _ _ _ [[(2, fr, 0)], [(12, 0, 0)], p, [(2, fr, 0)], [(13, 0, 0)]] (by repeat (first | exact PVs.nil | refine PVs.cons ⟨_, _, rfl, inferInstance⟩ ?_)) rfl (by simp) (Nat.le_trans hF1 (Nat.le_of_ble_eq_true rfl)) hF2) ?_; rintro _ _ ⟨hJ, bJ, cJ, rfl, rfl, osJ⟩; refine ⟨_, _, rfl, rfl, ?_⟩))
    | (refine gk 5 rfl ?_; first | refine sl_buildSlice rfl rfl rfl rfl rfl (by exact rfl) (by exact rfl) (by exact rfl) (by exact rfl) rfl (fun b => ?_) )
    | refine sl_region rfl ?_
    | refine sl_nil ?_
    | refine thn_k ?_
    | refine swp_true rfl ?_
    | refine swp_false rfl ?_
    | refine swp_block ?_
    | refine swp_ret ?_
    | refine swp_skip ?_
    | refine thn_ret ?_
    | refine inb_ret ?_
    )
  exact end_retL [dBlk βd bb bl bc odd at8 x0 x1 (vp), J, hJ] (resOk_one (resV_tmp rfl)) ⟨hJ, bJ, cJ, rfl, rfl, osJ⟩
theorem piece_lock1 (a fr dz : Int) (h0 : 0 ≤ a) (hsm : a ≤ 100000) (hdz : 0 < dz) (hdz2 : dz ≤ 20) (hfr : 0 ≤ fr) (hfr2 : fr ≤ 20) (hx : nextV B a % 7 = 1) (p : List Ins) (vp : Int) (ip1 : SL.T Try.prog 21 [.pointer (some ⟨βd, 0, none⟩), i64 (dz - 1), i64 (fr + 1)] [dBlk βd bb bl bc odd at8 x0 x1 (a + 1), J] (PQ J βd bb bl bc odd at8 x0 x1 p vp)) (hp : Fit 100 20000 p) (hvp : 0 ≤ vp ∧ vp ≤ 100000) :
    SL.T Try.prog 21 [.pointer (some ⟨βd, 0, none⟩), i64 dz, i64 fr] [dBlk βd bb bl bc odd at8 x0 x1 a, J] (PQ J βd bb bl bc odd at8 x0 x1 (joinF 0 [[(2, fr, 0)], [(12, 0, 0)], p, [(2, fr, 0)], [(13, 0, 0)]]) (vp)) := by
  have hb0 := nextV_byte hB a
  obtain ⟨hF1, hF2⟩ := okA (ls := [[(2, fr, 0)], [(12, 0, 0)], p, [(2, fr, 0)], [(13, 0, 0)]]) (by
    intro l hl
    simp only [List.mem_cons, List.not_mem_nil, or_false] at hl
    rcases hl with rfl | rfl | rfl | rfl | rfl <;> first | exact hp | exact hq | exact fit1 (by omega)) (by simp)
  refine t_of_body Try.func21 rfl (Nat.le_of_ble_eq_true rfl) fun F => ?_
  repeat' (first
    | refine sl_op rfl rfl rfl (opv_remE rfl rfl rfl (by omega) (by omega)) ?_
    | refine swp_seq ?_
    | (refine gk 0 rfl ?_; first | refine sl_op rfl rfl rfl (by first | exact opv_move rfl rfl | exact opv_assign rfl rfl ) ?_ )
    | (refine gk 1 rfl ?_; first | refine sl_op rfl rfl rfl (by first | exact opv_add64 rfl rfl rfl (by omega) (by omega) | exact opv_sub64 rfl rfl rfl (by omega) (by omega) ) ?_ )
    | (refine gk 2 rfl ?_; first | refine sl_yes rfl rfl rfl (by first | exact opv_eql rfl rfl rfl ) (by first | omega ) ?_ | refine sl_no rfl rfl rfl (by first | exact opv_eql rfl rfl rfl ) (by first | omega ) ?_ )
    | (refine gk 4 rfl ?_; first | (refine sl_callT rfl rfl rfl rfl rfl rfl rfl rfl (next_calls J βd bb bl bc odd at8 x0 x1 (a) B hl hB (by omega) (by omega)) ?_; rintro _ _ ⟨rfl, rfl⟩; refine ⟨_, _, rfl, rfl, ?_⟩) | (refine sl_callT rfl rfl rfl rfl rfl rfl rfl rfl (one_calls _ _) ?_; rintro _ _ ⟨hO, bO, rfl, rfl, slO⟩; haveI := slO.sl; refine ⟨_, _, rfl, rfl, ?_⟩) | (refine sl_callT rfl rfl rfl rfl rfl rfl rfl rfl (ip1) ?_; rintro _ _ ⟨hP1, bP1, cP1, rfl, rfl, osP1⟩; haveI := osP1.sl; refine ⟨_, _, rfl, rfl, ?_⟩) | (refine sl_callW rfl rfl rfl rfl rfl rfl rfl rfl (join_W _ _ _ _ _ [[(2, fr, 0)], [(12, 0, 0)], p, [(2, fr, 0)], [(13, 0, 0)]] (by repeat (first | exact PVs.nil | refine PVs.cons ⟨_, _, rfl, inferInstance⟩ ?_)) rfl (by simp) (Nat.le_trans hF1 (Nat.le_of_ble_eq_true rfl)) hF2) ?_; rintro _ _ ⟨hJ, bJ, cJ, rfl, rfl, osJ⟩; refine ⟨_, _, rfl, rfl, ?_⟩))
    | (refine gk 5 rfl ?_; first | refine sl_buildSlice rfl rfl rfl rfl rfl (by exact rfl) (by exact rfl) (by exact rfl) (by exact rfl) rfl (fun b => ?_) )
    | refine sl_region rfl ?_
    | refine sl_nil ?_
    | refine thn_k ?_
    | refine swp_true rfl ?_
    | refine swp_false rfl ?_
    | refine swp_block ?_
    | refine swp_ret ?_
    | refine swp_skip ?_
    | refine thn_ret ?_
    | refine inb_ret ?_
    )
  exact end_retL [dBlk βd bb bl bc odd at8 x0 x1 (vp), J, hJ] (resOk_one (resV_tmp rfl)) ⟨hJ, bJ, cJ, rfl, rfl, osJ⟩
theorem piece_two (a fr dz : Int) (h0 : 0 ≤ a) (hsm : a ≤ 100000) (hdz : 0 < dz) (hdz2 : dz ≤ 20) (hfr : 0 ≤ fr) (hfr2 : fr ≤ 20) (hx : nextV B a % 7 = 2) (p q : List Ins) (vp vq : Int) (ip1 : SL.T Try.prog 21 [.pointer (some ⟨βd, 0, none⟩), i64 (dz - 1), i64 (fr)] [dBlk βd bb bl bc odd at8 x0 x1 (a + 1), J] (PQ J βd bb bl bc odd at8 x0 x1 p vp)) (hp : Fit 100 20000 p) (hvp : 0 ≤ vp ∧ vp ≤ 100000) (ip2 : SL.T Try.prog 21 [.pointer (some ⟨βd, 0, none⟩), i64 (dz - 1), i64 (fr)] [dBlk βd bb bl bc odd at8 x0 x1 (vp), J] (PQ J βd bb bl bc odd at8 x0 x1 q vq)) (hq : Fit 100 20000 q) (hvq : 0 ≤ vq ∧ vq ≤ 100000) :
    SL.T Try.prog 21 [.pointer (some ⟨βd, 0, none⟩), i64 dz, i64 fr] [dBlk βd bb bl bc odd at8 x0 x1 a, J] (PQ J βd bb bl bc odd at8 x0 x1 (joinF 0 [p, q]) (vq)) := by
  have hb0 := nextV_byte hB a
  obtain ⟨hF1, hF2⟩ := okA (ls := [p, q]) (by
    intro l hl
    simp only [List.mem_cons, List.not_mem_nil, or_false] at hl
    rcases hl with rfl | rfl <;> first | exact hp | exact hq | exact fit1 (by omega)) (by simp)
  refine t_of_body Try.func21 rfl (Nat.le_of_ble_eq_true rfl) fun F => ?_
  repeat' (first
    | refine sl_op rfl rfl rfl (opv_remE rfl rfl rfl (by omega) (by omega)) ?_
    | refine swp_seq ?_
    | (refine gk 0 rfl ?_; first | refine sl_op rfl rfl rfl (by first | exact opv_move rfl rfl | exact opv_assign rfl rfl ) ?_ )
    | (refine gk 1 rfl ?_; first | refine sl_op rfl rfl rfl (by first | exact opv_sub64 rfl rfl rfl (by omega) (by omega) ) ?_ )
    | (refine gk 2 rfl ?_; first | refine sl_yes rfl rfl rfl (by first | exact opv_eql rfl rfl rfl ) (by first | omega ) ?_ | refine sl_no rfl rfl rfl (by first | exact opv_eql rfl rfl rfl ) (by first | omega ) ?_ )
    | (refine gk 4 rfl ?_; first | (refine sl_callT rfl rfl rfl rfl rfl rfl rfl rfl (next_calls J βd bb bl bc odd at8 x0 x1 (a) B hl hB (by omega) (by omega)) ?_; rintro _ _ ⟨rfl, rfl⟩; refine ⟨_, _, rfl, rfl, ?_⟩) | (refine sl_callT rfl rfl rfl rfl rfl rfl rfl rfl (ip1) ?_; rintro _ _ ⟨hP1, bP1, cP1, rfl, rfl, osP1⟩; haveI := osP1.sl; refine ⟨_, _, rfl, rfl, ?_⟩) | (refine sl_callT rfl rfl rfl rfl rfl rfl rfl rfl (ip2) ?_; rintro _ _ ⟨hP2, bP2, cP2, rfl, rfl, osP2⟩; haveI := osP2.sl; refine ⟨_, _, rfl, rfl, ?_⟩) | (refine sl_callW rfl rfl rfl rfl rfl rfl rfl rfl (join_W _ _ _ _ _ [p, q] (by repeat (first | exact PVs.nil | refine PVs.cons ⟨_, _, rfl, inferInstance⟩ ?_)) rfl (by simp) (Nat.le_trans hF1 (Nat.le_of_ble_eq_true rfl)) hF2) ?_; rintro _ _ ⟨hJ, bJ, cJ, rfl, rfl, osJ⟩; refine ⟨_, _, rfl, rfl, ?_⟩))
    | (refine gk 5 rfl ?_; first | refine sl_buildSlice rfl rfl rfl rfl rfl (by exact rfl) (by exact rfl) (by exact rfl) (by exact rfl) rfl (fun b => ?_) )
    | refine sl_region rfl ?_
    | refine sl_nil ?_
    | refine thn_k ?_
    | refine swp_true rfl ?_
    | refine swp_false rfl ?_
    | refine swp_block ?_
    | refine swp_ret ?_
    | refine swp_skip ?_
    | refine thn_ret ?_
    | refine inb_ret ?_
    )
  exact end_retL [dBlk βd bb bl bc odd at8 x0 x1 (vq), J, hJ] (resOk_one (resV_tmp rfl)) ⟨hJ, bJ, cJ, rfl, rfl, osJ⟩
theorem piece_test (a fr dz : Int) (h0 : 0 ≤ a) (hsm : a ≤ 100000) (hdz : 0 < dz) (hdz2 : dz ≤ 20) (hfr : 0 ≤ fr) (hfr2 : fr ≤ 20) (hx : nextV B a % 7 = 3) (p q : List Ins) (vp vq : Int) (ip1 : SL.T Try.prog 21 [.pointer (some ⟨βd, 0, none⟩), i64 (dz - 1), i64 (fr)] [dBlk βd bb bl bc odd at8 x0 x1 (a + 1), J] (PQ J βd bb bl bc odd at8 x0 x1 p vp)) (hp : Fit 100 20000 p) (hvp : 0 ≤ vp ∧ vp ≤ 100000) (ip2 : SL.T Try.prog 21 [.pointer (some ⟨βd, 0, none⟩), i64 (dz - 1), i64 (fr)] [dBlk βd bb bl bc odd at8 x0 x1 (vp), J] (PQ J βd bb bl bc odd at8 x0 x1 q vq)) (hq : Fit 100 20000 q) (hvq : 0 ≤ vq ∧ vq ≤ 100000) :
    SL.T Try.prog 21 [.pointer (some ⟨βd, 0, none⟩), i64 dz, i64 fr] [dBlk βd bb bl bc odd at8 x0 x1 a, J] (PQ J βd bb bl bc odd at8 x0 x1 (joinF 0 [[(0, nextV B vq % 2, 0)], [(7, (p.length : Int) + 2, 0)], p, [(6, (q.length : Int) + 1, 0)], q]) (vq + 1)) := by
  have hb0 := nextV_byte hB a
  have hb1 := nextV_byte hB vq
  have hpl := hp.len
  have hql := hq.len
  obtain ⟨hF1, hF2⟩ := okA (ls := [[(0, nextV B vq % 2, 0)], [(7, (p.length : Int) + 2, 0)], p, [(6, (q.length : Int) + 1, 0)], q]) (by
    intro l hl
    simp only [List.mem_cons, List.not_mem_nil, or_false] at hl
    rcases hl with rfl | rfl | rfl | rfl | rfl <;> first | exact hp | exact hq | exact fit1 (by omega)) (by simp)
  refine t_of_body Try.func21 rfl (Nat.le_of_ble_eq_true rfl) fun F => ?_
  repeat' (first
    | refine sl_op rfl rfl rfl (opv_remE rfl rfl rfl (by omega) (by omega)) ?_
    | refine swp_seq ?_
    | (refine gk 0 rfl ?_; first | refine sl_op rfl rfl rfl (by first | exact opv_move rfl rfl | exact opv_assign rfl rfl ) ?_ )
    | (refine gk 1 rfl ?_; first | refine sl_op rfl rfl rfl (by first | exact opv_add64 rfl rfl rfl (by omega) (by omega) | exact opv_sub64 rfl rfl rfl (by omega) (by omega) ) ?_ )
    | (refine gk 2 rfl ?_; first | refine sl_yes rfl rfl rfl (by first | exact opv_eql rfl rfl rfl ) (by first | omega ) ?_ | refine sl_no rfl rfl rfl (by first | exact opv_eql rfl rfl rfl ) (by first | omega ) ?_ )
    | (refine gk 4 rfl ?_; first | refine sl_op rfl rfl rfl (by first | exact opv_len rfl rfl rfl rfl rfl ) ?_ | (refine sl_callT rfl rfl rfl rfl rfl rfl rfl rfl (next_calls J βd bb bl bc odd at8 x0 x1 (a) B hl hB (by omega) (by omega)) ?_; rintro _ _ ⟨rfl, rfl⟩; refine ⟨_, _, rfl, rfl, ?_⟩) | (refine sl_callT rfl rfl rfl rfl rfl rfl rfl rfl (ip1) ?_; rintro _ _ ⟨hP1, bP1, cP1, rfl, rfl, osP1⟩; haveI := osP1.sl; refine ⟨_, _, rfl, rfl, ?_⟩) | (refine sl_callT rfl rfl rfl rfl rfl rfl rfl rfl (ip2) ?_; rintro _ _ ⟨hP2, bP2, cP2, rfl, rfl, osP2⟩; haveI := osP2.sl; refine ⟨_, _, rfl, rfl, ?_⟩) | (refine sl_callT rfl rfl rfl rfl rfl rfl rfl rfl (next_calls J βd bb bl bc odd at8 x0 x1 (vq) B hl hB (by omega) (by omega)) ?_; rintro _ _ ⟨rfl, rfl⟩; refine ⟨_, _, rfl, rfl, ?_⟩) | (refine sl_callT rfl rfl rfl rfl rfl rfl rfl rfl (one_calls _ _) ?_; rintro _ _ ⟨hO, bO, rfl, rfl, slO⟩; haveI := slO.sl; refine ⟨_, _, rfl, rfl, ?_⟩) | (refine sl_callW rfl rfl rfl rfl rfl rfl rfl rfl (join_W _ _ _ _ _ [[(0, nextV B vq % 2, 0)], [(7, (p.length : Int) + 2, 0)], p, [(6, (q.length : Int) + 1, 0)], q] (by repeat (first | exact PVs.nil | refine PVs.cons ⟨_, _, rfl, inferInstance⟩ ?_)) rfl (by simp) (Nat.le_trans hF1 (Nat.le_of_ble_eq_true rfl)) hF2) ?_; rintro _ _ ⟨hJ, bJ, cJ, rfl, rfl, osJ⟩; refine ⟨_, _, rfl, rfl, ?_⟩))
    | (refine gk 5 rfl ?_; first | refine sl_buildSlice rfl rfl rfl rfl rfl (by exact rfl) (by exact rfl) (by exact rfl) (by exact rfl) rfl (fun b => ?_) )
    | refine sl_region rfl ?_
    | refine sl_nil ?_
    | refine thn_k ?_
    | refine swp_true rfl ?_
    | refine swp_false rfl ?_
    | refine swp_block ?_
    | refine swp_ret ?_
    | refine swp_skip ?_
    | refine thn_ret ?_
    | refine inb_ret ?_
    )
  exact end_retL [dBlk βd bb bl bc odd at8 x0 x1 (vq + 1), J, hJ] (resOk_one (resV_tmp rfl)) ⟨hJ, bJ, cJ, rfl, rfl, osJ⟩
theorem piece_loop (a fr dz : Int) (h0 : 0 ≤ a) (hsm : a ≤ 100000) (hdz : 0 < dz) (hdz2 : dz ≤ 20) (hfr : 0 ≤ fr) (hfr2 : fr ≤ 20) (hx : nextV B a % 7 = 4) (p : List Ins) (vp : Int) (ip1 : SL.T Try.prog 21 [.pointer (some ⟨βd, 0, none⟩), i64 (dz - 1), i64 (fr)] [dBlk βd bb bl bc odd at8 x0 x1 (a + 1), J] (PQ J βd bb bl bc odd at8 x0 x1 p vp)) (hp : Fit 100 20000 p) (hvp : 0 ≤ vp ∧ vp ≤ 100000) :
    SL.T Try.prog 21 [.pointer (some ⟨βd, 0, none⟩), i64 dz, i64 fr] [dBlk βd bb bl bc odd at8 x0 x1 a, J] (PQ J βd bb bl bc odd at8 x0 x1 (joinF 0 [p, [(0, nextV B vp % 2, 0)], [(7, -(p.length : Int) - 1, 0)]]) (vp + 1)) := by
  have hb0 := nextV_byte hB a
  have hb1 := nextV_byte hB vp
  have hpl := hp.len
  obtain ⟨hF1, hF2⟩ := okA (ls := [p, [(0, nextV B vp % 2, 0)], [(7, -(p.length : Int) - 1, 0)]]) (by
    intro l hl
    simp only [List.mem_cons, List.not_mem_nil, or_false] at hl
    rcases hl with rfl | rfl | rfl <;> first | exact hp | exact hq | exact fit1 (by omega)) (by simp)
  refine t_of_body Try.func21 rfl (Nat.le_of_ble_eq_true rfl) fun F => ?_
  repeat' (first
    | first | refine sl_op rfl rfl rfl (opv_remE rfl rfl rfl (by omega) (by omega)) ?_ | refine sl_op rfl rfl rfl (opv_neg64 rfl rfl (by omega) (by omega)) ?_
    | refine swp_seq ?_
    | (refine gk 0 rfl ?_; first | refine sl_op rfl rfl rfl (by first | exact opv_move rfl rfl | exact opv_assign rfl rfl ) ?_ )
    | (refine gk 1 rfl ?_; first | refine sl_op rfl rfl rfl (by first | exact opv_sub64 rfl rfl rfl (by omega) (by omega) ) ?_ )
    | (refine gk 2 rfl ?_; first | refine sl_yes rfl rfl rfl (by first | exact opv_eql rfl rfl rfl ) (by first | omega ) ?_ | refine sl_no rfl rfl rfl (by first | exact opv_eql rfl rfl rfl ) (by first | omega ) ?_ )
    | (refine gk 3 rfl ?_; first | refine sl_op rfl rfl rfl (by first | exact opv_load rfl (by exact rfl) rfl (by exact rfl) ) ?_ )
    | (refine gk 4 rfl ?_; first | refine sl_op rfl rfl rfl (by first | exact opv_len rfl rfl rfl rfl rfl ) ?_ | (refine sl_callT rfl rfl rfl rfl rfl rfl rfl rfl (next_calls J βd bb bl bc odd at8 x0 x1 (a) B hl hB (by omega) (by omega)) ?_; rintro _ _ ⟨rfl, rfl⟩; refine ⟨_, _, rfl, rfl, ?_⟩) | (refine sl_callT rfl rfl rfl rfl rfl rfl rfl rfl (ip1) ?_; rintro _ _ ⟨hP1, bP1, cP1, rfl, rfl, osP1⟩; haveI := osP1.sl; refine ⟨_, _, rfl, rfl, ?_⟩) | (refine sl_callT rfl rfl rfl rfl rfl rfl rfl rfl (next_calls J βd bb bl bc odd at8 x0 x1 (vp) B hl hB (by omega) (by omega)) ?_; rintro _ _ ⟨rfl, rfl⟩; refine ⟨_, _, rfl, rfl, ?_⟩) | (refine sl_callT rfl rfl rfl rfl rfl rfl rfl rfl (one_calls _ _) ?_; rintro _ _ ⟨hO, bO, rfl, rfl, slO⟩; haveI := slO.sl; refine ⟨_, _, rfl, rfl, ?_⟩) | (refine sl_callW rfl rfl rfl rfl rfl rfl rfl rfl (join_W _ _ _ _ _ [p, [(0, nextV B vp % 2, 0)], [(7, -(p.length : Int) - 1, 0)]] (by repeat (first | exact PVs.nil | refine PVs.cons ⟨_, _, rfl, inferInstance⟩ ?_)) rfl (by simp) (Nat.le_trans hF1 (Nat.le_of_ble_eq_true rfl)) hF2) ?_; rintro _ _ ⟨hJ, bJ, cJ, rfl, rfl, osJ⟩; refine ⟨_, _, rfl, rfl, ?_⟩))
    | (refine gk 5 rfl ?_; first | refine sl_buildSlice rfl rfl rfl rfl rfl (by exact rfl) (by exact rfl) (by exact rfl) (by exact rfl) rfl (fun b => ?_) )
    | refine sl_region rfl ?_
    | refine chu_nil ?_
    | refine chu_q rfl ?_
    | refine chu_f rfl ?_
    | refine chu_r rfl ?_
    | refine chu_new rfl rfl (by first | exact new_alloc rfl (by exact rfl) ) ?_
    | refine chu_rv rfl rfl rfl (fun β => ?_)
    | refine chu_pass rfl rfl rfl rfl ?_
    | refine chu_store rfl rfl rfl rfl rfl rfl (by exact rfl) rfl (by exact rfl) (by exact rfl) ?_
    | (refine chu_T rfl rfl rfl rfl rfl rfl rfl rfl (next_calls J βd bb bl bc odd at8 x0 x1 (a) B hl hB (by omega) (by omega)) (by rintro _ _ ⟨rfl, rfl⟩; exact ⟨_, rfl⟩) ?_; rintro _ _ ⟨rfl, rfl⟩; refine ⟨_, _, rfl, rfl, ?_⟩)
    | (refine chu_T rfl rfl rfl rfl rfl rfl rfl rfl (ip1) (by rintro _ _ ⟨hP1, bP1, cP1, rfl, rfl, osP1⟩; exact ⟨_, rfl⟩) ?_; rintro _ _ ⟨hP1, bP1, cP1, rfl, rfl, osP1⟩; haveI := osP1.sl; refine ⟨_, _, rfl, rfl, ?_⟩)
    | (refine chu_T rfl rfl rfl rfl rfl rfl rfl rfl (next_calls J βd bb bl bc odd at8 x0 x1 (vp) B hl hB (by omega) (by omega)) (by rintro _ _ ⟨rfl, rfl⟩; exact ⟨_, rfl⟩) ?_; rintro _ _ ⟨rfl, rfl⟩; refine ⟨_, _, rfl, rfl, ?_⟩)
    | (refine chu_T rfl rfl rfl rfl rfl rfl rfl rfl (one_calls _ _) (by rintro _ _ ⟨hO, bO, rfl, rfl, slO⟩; exact ⟨_, rfl⟩) ?_; rintro _ _ ⟨hO, bO, rfl, rfl, slO⟩; haveI := slO.sl; refine ⟨_, _, rfl, rfl, ?_⟩)
    | (refine chu_callW rfl rfl rfl rfl rfl rfl rfl rfl (join_W _ _ _ _ _ [p, [(0, nextV B vp % 2, 0)], [(7, -(p.length : Int) - 1, 0)]] (by repeat (first | exact PVs.nil )) rfl (by simp) (Nat.le_trans hF1 (Nat.le_of_ble_eq_true rfl)) hF2) ?_; rintro _ _ ⟨hJ, bJ, cJ, rfl, rfl, osJ⟩; refine ⟨_, _, rfl, rfl, ?_⟩)
    | refine sl_nil ?_
    | refine thn_k ?_
    | refine swp_true rfl ?_
    | refine swp_false rfl ?_
    | refine swp_block ?_
    | refine swp_ret ?_
    | refine swp_exit ?_
    | refine swp_skip ?_
    | refine thn_ret ?_
    | refine inb_ret ?_
    | refine inb_k ?_
    | refine thn_exit ?_
    | refine inb_exit ?_
    | refine inb_out rfl ?_)
  exact end_retL [dBlk βd bb bl bc odd at8 x0 x1 (vp + 1), J, hJ] (resOk_one (resV_tmp rfl)) ⟨hJ, bJ, cJ, rfl, rfl, osJ⟩
theorem piece_wait (a fr dz : Int) (h0 : 0 ≤ a) (hsm : a ≤ 100000) (hdz : 0 < dz) (hdz2 : dz ≤ 20) (hfr : 0 ≤ fr) (hfr2 : fr ≤ 20) (hx : nextV B a % 7 = 5) (hf : 0 < fr) :
    SL.T Try.prog 21 [.pointer (some ⟨βd, 0, none⟩), i64 dz, i64 fr] [dBlk βd bb bl bc odd at8 x0 x1 a, J] (PQ J βd bb bl bc odd at8 x0 x1 (joinF 0 [[(2, nextV B (a + 1) % fr, 0)], [(14, 0, 0)], [(19, 0, 0)], [(2, nextV B (a + 1) % fr, 0)], [(15 + nextV B (a + 1 + 1) % 2, 0, 0)]]) (a + 1 + 1 + 1)) := by
  have hb0 := nextV_byte hB a
  have hb1 := nextV_byte hB (a + 1)
  have hb2 := nextV_byte hB (a + 1 + 1)
  have h3 := Int.emod_nonneg (nextV B (a + 1)) (show fr ≠ 0 by omega)
  have h4 := Int.emod_lt_of_pos (nextV B (a + 1)) hf
  obtain ⟨hF1, hF2⟩ := okA (ls := [[(2, nextV B (a + 1) % fr, 0)], [(14, 0, 0)], [(19, 0, 0)], [(2, nextV B (a + 1) % fr, 0)], [(15 + nextV B (a + 1 + 1) % 2, 0, 0)]]) (by
    intro l hl
    simp only [List.mem_cons, List.not_mem_nil, or_false] at hl
    rcases hl with rfl | rfl | rfl | rfl | rfl <;> first | exact hp | exact hq | exact fit1 (by omega)) (by simp)
  refine t_of_body Try.func21 rfl (Nat.le_of_ble_eq_true rfl) fun F => ?_
  repeat' (first
    | refine sl_op rfl rfl rfl (opv_remE rfl rfl rfl (by omega) (by omega)) ?_
    | refine swp_seq ?_
    | (refine gk 0 rfl ?_; first | refine sl_op rfl rfl rfl (by first | exact opv_move rfl rfl | exact opv_assign rfl rfl ) ?_ )
    | (refine gk 1 rfl ?_; first | refine sl_op rfl rfl rfl (by first | exact opv_add64 rfl rfl rfl (by omega) (by omega) ) ?_ )
    | (refine gk 2 rfl ?_; first | refine sl_yes rfl rfl rfl (by first | exact opv_gtr rfl rfl rfl | exact opv_eql rfl rfl rfl ) (by first | omega ) ?_ | refine sl_no rfl rfl rfl (by first | exact opv_eql rfl rfl rfl ) (by first | omega ) ?_ )
    | (refine gk 4 rfl ?_; first | (refine sl_callT rfl rfl rfl rfl rfl rfl rfl rfl (next_calls J βd bb bl bc odd at8 x0 x1 (a) B hl hB (by omega) (by omega)) ?_; rintro _ _ ⟨rfl, rfl⟩; refine ⟨_, _, rfl, rfl, ?_⟩) | (refine sl_callT rfl rfl rfl rfl rfl rfl rfl rfl (next_calls J βd bb bl bc odd at8 x0 x1 (a + 1) B hl hB (by omega) (by omega)) ?_; rintro _ _ ⟨rfl, rfl⟩; refine ⟨_, _, rfl, rfl, ?_⟩) | (refine sl_callT rfl rfl rfl rfl rfl rfl rfl rfl (next_calls J βd bb bl bc odd at8 x0 x1 (a + 1 + 1) B hl hB (by omega) (by omega)) ?_; rintro _ _ ⟨rfl, rfl⟩; refine ⟨_, _, rfl, rfl, ?_⟩) | (refine sl_callT rfl rfl rfl rfl rfl rfl rfl rfl (one_calls _ _) ?_; rintro _ _ ⟨hO, bO, rfl, rfl, slO⟩; haveI := slO.sl; refine ⟨_, _, rfl, rfl, ?_⟩) | (refine sl_callW rfl rfl rfl rfl rfl rfl rfl rfl (join_W _ _ _ _ _ [[(2, nextV B (a + 1) % fr, 0)], [(14, 0, 0)], [(19, 0, 0)], [(2, nextV B (a + 1) % fr, 0)], [(15 + nextV B (a + 1 + 1) % 2, 0, 0)]] (by repeat (first | exact PVs.nil | refine PVs.cons ⟨_, _, rfl, inferInstance⟩ ?_)) rfl (by simp) (Nat.le_trans hF1 (Nat.le_of_ble_eq_true rfl)) hF2) ?_; rintro _ _ ⟨hJ, bJ, cJ, rfl, rfl, osJ⟩; refine ⟨_, _, rfl, rfl, ?_⟩))
    | (refine gk 5 rfl ?_; first | refine sl_buildSlice rfl rfl rfl rfl rfl (by exact rfl) (by exact rfl) (by exact rfl) (by exact rfl) rfl (fun b => ?_) )
    | refine sl_region rfl ?_
    | refine sl_nil ?_
    | refine thn_k ?_
    | refine swp_true rfl ?_
    | refine swp_false rfl ?_
    | refine swp_block ?_
    | refine swp_ret ?_
    | refine swp_skip ?_
    | refine thn_ret ?_
    | refine inb_ret ?_
    )
  exact end_retL [dBlk βd bb bl bc odd at8 x0 x1 (a + 1 + 1 + 1), J, hJ] (resOk_one (resV_tmp rfl)) ⟨hJ, bJ, cJ, rfl, rfl, osJ⟩
theorem piece_none (a fr dz : Int) (h0 : 0 ≤ a) (hsm : a ≤ 100000) (hdz : 0 < dz) (hdz2 : dz ≤ 20) (hfr : 0 ≤ fr) (hfr2 : fr ≤ 20) (hx : nextV B a % 7 = 5) (hf : ¬ 0 < fr) :
    SL.T Try.prog 21 [.pointer (some ⟨βd, 0, none⟩), i64 dz, i64 fr] [dBlk βd bb bl bc odd at8 x0 x1 a, J] (PQ J βd bb bl bc odd at8 x0 x1 [(0, 1, 0)] (a + 1)) := by
  have hb0 := nextV_byte hB a
  refine t_of_body Try.func21 rfl (Nat.le_of_ble_eq_true rfl) fun F => ?_
  repeat' (first
    | refine sl_op rfl rfl rfl (opv_remE rfl rfl rfl (by omega) (by omega)) ?_
    | refine swp_seq ?_
    | (refine gk 0 rfl ?_; first | refine sl_op rfl rfl rfl (by first | exact opv_move rfl rfl | exact opv_assign rfl rfl ) ?_ )
    | (refine gk 2 rfl ?_; first | refine sl_yes rfl rfl rfl (by first | exact opv_gtr rfl rfl rfl | exact opv_eql rfl rfl rfl ) (by first | omega ) ?_ | refine sl_no rfl rfl rfl (by first | exact opv_gtr rfl rfl rfl | exact opv_eql rfl rfl rfl ) (by first | omega ) ?_ )
    | (refine gk 4 rfl ?_; first | (refine sl_callT rfl rfl rfl rfl rfl rfl rfl rfl (next_calls J βd bb bl bc odd at8 x0 x1 (a) B hl hB (by omega) (by omega)) ?_; rintro _ _ ⟨rfl, rfl⟩; refine ⟨_, _, rfl, rfl, ?_⟩) | (refine sl_callT rfl rfl rfl rfl rfl rfl rfl rfl (one_calls _ _) ?_; rintro _ _ ⟨hO, bO, rfl, rfl, slO⟩; refine ⟨_, _, rfl, rfl, ?_⟩))
    | refine sl_region rfl ?_
    | refine sl_nil ?_
    | refine thn_k ?_
    | refine swp_true rfl ?_
    | refine swp_false rfl ?_
    | refine swp_block ?_
    | refine swp_ret ?_
    | refine swp_skip ?_
    | refine thn_ret ?_
    | refine inb_ret ?_
    )
  exact end_retL [dBlk βd bb bl bc odd at8 x0 x1 (a + 1), J, hO] (resOk_one (resV_tmp rfl)) ⟨hO, bO, 1, rfl, rfl, slO⟩
theorem piece_store (a fr dz : Int) (h0 : 0 ≤ a) (hsm : a ≤ 100000) (hdz : 0 < dz) (hdz2 : dz ≤ 20) (hfr : 0 ≤ fr) (hfr2 : fr ≤ 20) (hx : nextV B a % 7 = 6) :
    SL.T Try.prog 21 [.pointer (some ⟨βd, 0, none⟩), i64 dz, i64 fr] [dBlk βd bb bl bc odd at8 x0 x1 a, J] (PQ J βd bb bl bc odd at8 x0 x1 (joinF 0 [[(1, 0, 0)], [(3, fr + nextV B (a + 1) % 2, 0)]]) (a + 1 + 1)) := by
  have hb0 := nextV_byte hB a
  have hb1 := nextV_byte hB (a + 1)
  obtain ⟨hF1, hF2⟩ := okA (ls := [[(1, 0, 0)], [(3, fr + nextV B (a + 1) % 2, 0)]]) (by
    intro l hl
    simp only [List.mem_cons, List.not_mem_nil, or_false] at hl
    rcases hl with rfl | rfl <;> first | exact hp | exact hq | exact fit1 (by omega)) (by simp)
  refine t_of_body Try.func21 rfl (Nat.le_of_ble_eq_true rfl) fun F => ?_
  repeat' (first
    | refine sl_op rfl rfl rfl (opv_remE rfl rfl rfl (by omega) (by omega)) ?_
    | refine swp_seq ?_
    | (refine gk 0 rfl ?_; first | refine sl_op rfl rfl rfl (by first | exact opv_move rfl rfl | exact opv_assign rfl rfl ) ?_ )
    | (refine gk 1 rfl ?_; first | refine sl_op rfl rfl rfl (by first | exact opv_add64 rfl rfl rfl (by omega) (by omega) ) ?_ )
    | (refine gk 2 rfl ?_; first | refine sl_no rfl rfl rfl (by first | exact opv_eql rfl rfl rfl ) (by first | omega ) ?_ )
    | (refine gk 4 rfl ?_; first | (refine sl_callT rfl rfl rfl rfl rfl rfl rfl rfl (next_calls J βd bb bl bc odd at8 x0 x1 (a) B hl hB (by omega) (by omega)) ?_; rintro _ _ ⟨rfl, rfl⟩; refine ⟨_, _, rfl, rfl, ?_⟩) | (refine sl_callT rfl rfl rfl rfl rfl rfl rfl rfl (next_calls J βd bb bl bc odd at8 x0 x1 (a + 1) B hl hB (by omega) (by omega)) ?_; rintro _ _ ⟨rfl, rfl⟩; refine ⟨_, _, rfl, rfl, ?_⟩) | (refine sl_callT rfl rfl rfl rfl rfl rfl rfl rfl (one_calls _ _) ?_; rintro _ _ ⟨hO, bO, rfl, rfl, slO⟩; haveI := slO.sl; refine ⟨_, _, rfl, rfl, ?_⟩) | (refine sl_callW rfl rfl rfl rfl rfl rfl rfl rfl (join_W _ _ _ _ _ [[(1, 0, 0)], [(3, fr + nextV B (a + 1) % 2, 0)]] (by repeat (first | exact PVs.nil | refine PVs.cons ⟨_, _, rfl, inferInstance⟩ ?_)) rfl (by simp) (Nat.le_trans hF1 (Nat.le_of_ble_eq_true rfl)) hF2) ?_; rintro _ _ ⟨hJ, bJ, cJ, rfl, rfl, osJ⟩; refine ⟨_, _, rfl, rfl, ?_⟩))
    | (refine gk 5 rfl ?_; first | refine sl_buildSlice rfl rfl rfl rfl rfl (by exact rfl) (by exact rfl) (by exact rfl) (by exact rfl) rfl (fun b => ?_) )
    | refine sl_region rfl ?_
    | refine sl_nil ?_
    | refine thn_k ?_
    | refine swp_false rfl ?_
    | refine swp_block ?_
    | refine swp_ret ?_
    | refine swp_skip ?_
    )
  exact end_retL [dBlk βd bb bl bc odd at8 x0 x1 (a + 1 + 1), J, hJ] (resOk_one (resV_tmp rfl)) ⟨hJ, bJ, cJ, rfl, rfl, osJ⟩
omit hl hB in
theorem T_PQ {args : List Value} {hs : List Heap} {p q : List Ins} {v u : Int} (h : SL.T Try.prog 21 args hs (PQ J βd bb bl bc odd at8 x0 x1 p v)) (hp : p = q) (hv : v = u) : SL.T Try.prog 21 args hs (PQ J βd bb bl bc odd at8 x0 x1 q u) := by subst hp hv; exact h
theorem piece_calls : ∀ (d : Nat) (dz a fr : Int), dz = d → mostL d ≤ 100 → 0 ≤ a → a + mostN d ≤ 100000 → 0 ≤ fr → fr + d ≤ 20 →
    SL.T Try.prog 21 [.pointer (some ⟨βd, 0, none⟩), i64 dz, i64 fr] [dBlk βd bb bl bc odd at8 x0 x1 a, J] (PQ J βd bb bl bc odd at8 x0 x1 (pieceF B d a fr).1 (pieceF B d a fr).2)
  | 0, dz, a, fr, e, hm, h0, hsm, hf, hf2 => by
    subst e
    exact piece_0 J βd bb bl bc odd at8 x0 x1 B hl hB a fr h0 (by simp only [mostN] at hsm; omega)
  | d + 1, dz, a, fr, e, hm, h0, hsm, hf, hf2 => by
    have hg := mostN_ge d
    have hm' : mostL d ≤ 100 := by simp only [mostL] at hm; omega
    simp only [mostN] at hsm
    have ez : dz - 1 = (d : Int) := by omega
    have ip := fun (a' fr' : Int) (h : 0 ≤ a') (h2 : a' + mostN d ≤ 100000) (h3 : 0 ≤ fr') (h4 : fr' + d ≤ 20) => piece_calls d (dz - 1) a' fr' ez hm' h h2 h3 h4
    have ft := fun (a' fr' : Int) (h3 : 0 ≤ fr') (h4 : fr' + d ≤ 20) => pieceF_fit2 hB d a' fr' hm' h3 h4
    have hb0 := nextV_byte hB a
    have hx0 : 0 ≤ nextV B a % 7 := Int.emod_nonneg _ (by omega)
    have hx7 : nextV B a % 7 < 7 := Int.emod_lt_of_pos _ (by omega)
    have a1 := fun fr' => pieceF_at B d (a + 1) fr'
    have a1f := a1 fr
    have a1g := a1 (fr + 1)
    have a2f := pieceF_at B d (pieceF B d (a + 1) fr).2 fr
    have ez1 : 0 < dz := by omega
    have ez2 : dz ≤ 20 := by omega
    rcases (by omega : nextV B a % 7 = 0 ∨ nextV B a % 7 = 1 ∨ nextV B a % 7 = 2 ∨ nextV B a % 7 = 3 ∨ nextV B a % 7 = 4 ∨ nextV B a % 7 = 5 ∨ nextV B a % 7 = 6) with hx | hx | hx | hx | hx | hx | hx
    · refine T_PQ _ _ _ _ _ _ _ _ _ (piece_lock0 J βd bb bl bc odd at8 x0 x1 B hl hB a fr dz h0 (by omega) ez1 ez2 hf (by omega) hx _ _ (ip (a + 1) (fr + 1) (by omega) (by omega) (by omega) (by omega)) (ft _ _ (by omega) (by omega)) (by omega)) ?_ ?_ <;> simp only [pieceF, hx] <;> simp
    · refine T_PQ _ _ _ _ _ _ _ _ _ (piece_lock1 J βd bb bl bc odd at8 x0 x1 B hl hB a fr dz h0 (by omega) ez1 ez2 hf (by omega) hx _ _ (ip (a + 1) (fr + 1) (by omega) (by omega) (by omega) (by omega)) (ft _ _ (by omega) (by omega)) (by omega)) ?_ ?_ <;> simp only [pieceF, hx] <;> simp
    · refine T_PQ _ _ _ _ _ _ _ _ _ (piece_two J βd bb bl bc odd at8 x0 x1 B hl hB a fr dz h0 (by omega) ez1 ez2 hf (by omega) hx _ _ _ _ (ip (a + 1) fr (by omega) (by omega) (by omega) (by omega)) (ft _ _ (by omega) (by omega)) (by omega) (ip _ fr (by omega) (by omega) (by omega) (by omega)) (ft _ _ (by omega) (by omega)) (by omega)) ?_ ?_ <;> simp only [pieceF, hx] <;> simp
    · refine T_PQ _ _ _ _ _ _ _ _ _ (piece_test J βd bb bl bc odd at8 x0 x1 B hl hB a fr dz h0 (by omega) ez1 ez2 hf (by omega) hx _ _ _ _ (ip (a + 1) fr (by omega) (by omega) (by omega) (by omega)) (ft _ _ (by omega) (by omega)) (by omega) (ip _ fr (by omega) (by omega) (by omega) (by omega)) (ft _ _ (by omega) (by omega)) (by omega)) ?_ ?_ <;> simp only [pieceF, hx] <;> simp
    · refine T_PQ _ _ _ _ _ _ _ _ _ (piece_loop J βd bb bl bc odd at8 x0 x1 B hl hB a fr dz h0 (by omega) ez1 ez2 hf (by omega) hx _ _ (ip (a + 1) fr (by omega) (by omega) (by omega) (by omega)) (ft _ _ (by omega) (by omega)) (by omega)) ?_ ?_ <;> simp only [pieceF, hx] <;> simp
    · by_cases hfr : 0 < fr
      · refine T_PQ _ _ _ _ _ _ _ _ _ (piece_wait J βd bb bl bc odd at8 x0 x1 B hl hB a fr dz h0 (by omega) ez1 ez2 hf (by omega) hx hfr) ?_ ?_ <;> simp only [pieceF, hx] <;> simp [hfr, Int.add_assoc]
      · refine T_PQ _ _ _ _ _ _ _ _ _ (piece_none J βd bb bl bc odd at8 x0 x1 B hl hB a fr dz h0 (by omega) ez1 ez2 hf (by omega) hx hfr) ?_ ?_ <;> simp only [pieceF, hx] <;> simp [hfr]
    · refine T_PQ _ _ _ _ _ _ _ _ _ (piece_store J βd bb bl bc odd at8 x0 x1 B hl hB a fr dz h0 (by omega) ez1 ez2 hf (by omega) hx) ?_ ?_ <;> simp only [pieceF, hx] <;> simp [Int.add_assoc]

end
end Go.Proofs.Ytifhhfeibnpaoaa
