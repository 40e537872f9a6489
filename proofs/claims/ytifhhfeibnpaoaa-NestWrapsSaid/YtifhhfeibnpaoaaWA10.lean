/- Coming to a place, walked. -/
import Derived.Test.YtifhhfeibnpaoaaWA9
namespace Go.Proofs.Ytifhhfeibnpaoaa
open Go.SL
set_option maxRecDepth 100000
set_option maxHeartbeats 16000000
attribute [local irreducible] SL.T PFn OpV SOL SWP HOp ChU
theorem come_out (βw : Nat) (p : Value) (lo st : Int) (cb : Option Addr) (cl cc bm : Nat) (ob : Option Addr) (on oc : Nat) (wr t : Int) (v : Value) (ht : t < 0 ∨ (cl : Int) ≤ t) :
    PFn Try.prog 38 [.pointer (some ⟨βw, 0, none⟩), i64 t, v] [wBlk βw p lo st cb cl cc bm ob on oc wr] (.bool true) := by
  refine pure_of_body Try.func38 rfl (Nat.le_of_ble_eq_true rfl) fun F => ?_
  repeat' (first
    | refine swp_seq ?_
    | (refine gk 0 rfl ?_; first | refine sl_op rfl rfl rfl (by first | exact opv_move rfl rfl | exact opv_assign rfl rfl | exact opv_pick_t rfl rfl rfl | exact opv_pick_f rfl rfl rfl ) ?_ | refine sl_pass rfl rfl rfl rfl ?_)
    | (refine gk 2 rfl ?_; first | refine sl_pass rfl rfl rfl rfl ?_ | refine sl_yes rfl rfl rfl (by first | exact opv_lss rfl rfl rfl | exact opv_geq rfl rfl rfl ) (by first | omega ) ?_ | refine sl_if rfl rfl rfl (by first | exact opv_lss rfl rfl rfl ) (fun h => ?_) (fun h => ?_) )
    | (refine gk 3 rfl ?_; first | refine sl_op rfl rfl rfl (by first | exact opv_load rfl (by exact rfl) rfl (by exact rfl) | exact opv_fieldAddr rfl rfl ) ?_ | refine sl_pass rfl rfl rfl rfl ?_)
    | (refine gk 4 rfl ?_; first | refine sl_pass rfl rfl rfl rfl ?_ | refine sl_op rfl rfl rfl (by first | exact opv_len rfl rfl rfl rfl rfl ) ?_)
    | (refine gk 5 rfl ?_; first | refine sl_op rfl rfl rfl (by first | exact opv_nilCheck rfl rfl ) ?_ | refine sl_pass rfl rfl rfl rfl ?_ )
    | refine sl_region rfl ?_
    | refine sl_nil ?_
    | refine thn_k ?_
    | refine swp_true rfl ?_
    | refine swp_ret ?_
    | refine thn_ret ?_
    )
  all_goals first | (exfalso; omega) | exact end_retL [wBlk βw p lo st cb cl cc bm ob on oc wr] (resOk_one (resV_tmp rfl)) ⟨rfl, rfl⟩
theorem come_was (K hM : Heap) (βw : Nat) (p : Value) (lo st : Int) (cb : Option Addr) (cl cc bm : Nat) (ob : Option Addr) (on oc : Nat) (wr t : Int) (f : Int → Option Value) (b b1 : Option Addr) (n c n1 c1 : Nat) (xs ys : List Int)
    [Sl K b (xs.map i64)] [Sl K b1 (ys.map i64)] (ht : 0 ≤ t ∧ t < (cl : Int)) (mp : MP hM bm .i64 f) (hf : f t = some (.slice b1 n1 c1)) (hn : xs.length = n) (hn1 : ys.length = n1) (h1 : n ≤ 4000000) (h2 : n1 ≤ 4000000) :
    PFn Try.prog 38 [.pointer (some ⟨βw, 0, none⟩), i64 t, .slice b n c] [wBlk βw p lo st cb cl cc bm ob on oc wr, hM, K] (.bool (decide (ys = xs))) := by
  have hE := Equal_calls [K] b1 b n1 n c1 c ys xs hn1 hn h2 h1
  refine pure_of_body Try.func38 rfl (Nat.le_of_ble_eq_true rfl) fun F => ?_
  repeat' (first
    | refine sl_op rfl rfl rfl (opv_lookS mp rfl rfl rfl hf) ?_
    | refine swp_seq ?_
    | (refine gk 0 rfl ?_; first | refine sl_op rfl rfl rfl (by first | exact opv_move rfl rfl | exact opv_assign rfl rfl | exact opv_pick_f rfl rfl rfl | exact opv_extract rfl rfl rfl ) ?_ )
    | (refine gk 2 rfl ?_; first | refine sl_no rfl rfl rfl (by first | exact opv_lss rfl rfl rfl | exact opv_geq rfl rfl rfl ) (by first | omega ) ?_ )
    | (refine gk 3 rfl ?_; first | refine sl_op rfl rfl rfl (by first | exact opv_load rfl (by exact rfl) rfl (by exact rfl) | exact opv_fieldAddr rfl rfl ) ?_ )
    | (refine gk 4 rfl ?_; first | refine sl_op rfl rfl rfl (by first | exact opv_len rfl rfl rfl rfl rfl ) ?_ | refine sl_op rfl rfl rfl (opv_call rfl rfl rfl rfl rfl (hE)) ?_)
    | (refine gk 5 rfl ?_; first | refine sl_op rfl rfl rfl (by first | exact opv_nilCheck rfl rfl ) ?_ )
    | refine sl_region rfl ?_
    | refine sl_nil ?_
    | refine thn_k ?_
    | refine swp_true rfl ?_
    | refine swp_false rfl ?_
    | refine swp_ret ?_
    | refine swp_skip ?_
    | refine thn_ret ?_
    )
  all_goals first | (exfalso; omega) | exact end_retL [wBlk βw p lo st cb cl cc bm ob on oc wr, hM, K] (resOk_one (resV_tmp rfl)) ⟨rfl, rfl⟩
theorem come_new (hM hO : Heap) (βw : Nat) (p : Value) (lo st : Int) (cb : Option Addr) (cl cc bm : Nat) (ob : Option Addr) (on oc : Nat) (wr t : Int) (f : Int → Option Value) (v : Value) (V : List Int)
    (ht : 0 ≤ t ∧ t < (cl : Int)) (mp : MP hM bm .i64 f) (hf : f t = none) (os : OS hO ob on oc 3 1 (V.map i64)) (hon : on ≤ 4000000) :
    SL.T Try.prog 38 [.pointer (some ⟨βw, 0, none⟩), i64 t, v] [wBlk βw p lo st cb cl cc bm ob on oc wr, hM, hO] fun e o => e = .returned (.bool true) ∧ ∃ hM' hO' ob' oc', o = [wBlk βw p lo st cb cl cc bm ob' (on + 1) oc' wr, hM', hO'] ∧
      MP hM' bm .i64 (fun q => if q = t then some v else f q) ∧ OS hO' ob' (on + 1) oc' 3 1 ((V ++ [t]).map i64) := by
  refine t_of_body Try.func38 rfl (Nat.le_of_ble_eq_true rfl) fun F => ?_
  repeat' (first
    | refine sl_op rfl rfl rfl (opv_lookN mp rfl rfl rfl hf) ?_
    | refine sl_update rfl rfl rfl rfl rfl rfl mp (fun hM2 mp2 => ?_)
    | refine swp_seq ?_
    | (refine gk 0 rfl ?_; first | refine sl_op rfl rfl rfl (by first | exact opv_move rfl rfl | exact opv_assign rfl rfl | exact opv_pick_f rfl rfl rfl | exact opv_extract rfl rfl rfl ) ?_ )
    | (refine gk 2 rfl ?_; first | refine sl_no rfl rfl rfl (by first | exact opv_lss rfl rfl rfl | exact opv_geq rfl rfl rfl ) (by first | omega ) ?_ )
    | (refine gk 3 rfl ?_; first | refine sl_op rfl rfl rfl (by first | exact opv_load rfl (by exact rfl) rfl (by exact rfl) | exact opv_fieldAddr rfl rfl ) ?_ )
    | (refine gk 4 rfl ?_; first | refine sl_op rfl rfl rfl (by first | exact opv_len rfl rfl rfl rfl rfl ) ?_ | (refine sl_append rfl rfl rfl rfl rfl rfl rfl rfl rfl os (by decide) rfl (by decide) rfl (by omega) (by omega) (fun h1 b1 c1 os1 => ?_)))
    | (refine gk 5 rfl ?_; first | refine sl_op rfl rfl rfl (by first | exact opv_nilCheck rfl rfl ) ?_ | refine sl_buildSlice rfl rfl rfl rfl rfl (by exact rfl) (by exact rfl) (by exact rfl) (by exact rfl) rfl (fun b => ?_) | refine sl_store rfl rfl rfl rfl rfl rfl (by exact rfl) rfl (by exact rfl) ?_)
    | refine sl_region rfl ?_
    | refine sl_nil ?_
    | refine thn_k ?_
    | refine swp_false rfl ?_
    | refine swp_ret ?_
    | refine swp_skip ?_
    )
  all_goals first | (exfalso; omega) | skip
  exact end_retL [wBlk βw p lo st cb cl cc bm b1 (on + 1) c1 wr, hM2, h1] (resOk_one (resV_tmp rfl)) ⟨rfl, hM2, h1, b1, c1, rfl, mp2, by rw [List.map_append]; exact os1⟩
end Go.Proofs.Ytifhhfeibnpaoaa
