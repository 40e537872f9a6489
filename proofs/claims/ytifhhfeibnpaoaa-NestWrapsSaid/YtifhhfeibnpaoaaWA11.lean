/- The places that are come to, one behind the other. -/
import Derived.Test.YtifhhfeibnpaoaaWA10
import Derived.Test.YtifhhfeibnpaoaaSlG8
namespace Go.Proofs.Ytifhhfeibnpaoaa
open Go.SL
set_option maxRecDepth 100000
set_option maxHeartbeats 16000000
attribute [local irreducible] SL.T PFn OpV SOL SWP HOp ChU
theorem wbehind_K (J K hM : Heap) (βw : Nat) (p : Value) (lo st : Int) (cb : Option Addr) (cl cc bm : Nat) (ob : Option Addr) (on oc : Nat) (wr : Int) (cs : List Ins) (z : Nat) (f : Int → Option Value) (b : Option Addr) (n c : Nat) (xs : List Int)
    [Sl J cb (flatI cs)] (slK : Sl K b (xs.map i64)) (hl : cs.length = cl) (hsm : cl ≤ 1000000) (hz : z < cl) (mp : MP hM bm .i64 f) (hf : f (z : Int) = some (.slice b n c)) (hn : xs.length = n) (hnc : n ≤ c) (hns : n ≤ 1000000) :
    SL.T Try.prog 40 [.pointer (some ⟨βw, 0, none⟩), i64 (z : Int)] [J, wBlk βw p lo st cb cl cc bm ob on oc wr, hM, K] fun e o => ∃ K', o = [K', J, wBlk βw p lo st cb cl cc bm ob on oc wr, hM] ∧ hle K K' ∧
      ∃ b' n' c', e = .returned (stV b' n' c' (behF cs z xs).isSome) ∧ ∀ s, behF cs z xs = some s → s.length = n' ∧ n' ≤ c' ∧ Sl K' b' (s.map i64) := by
  refine (T_joinP (R := fun e A N => A = [J, wBlk βw p lo st cb cl cc bm ob on oc wr, hM] ∧ ∃ N0, N = K :: N0 ∧ ∃ b' n' c', e = .returned (stV b' n' c' (behF cs z xs).isSome) ∧ BQ K N0 (behF cs z xs) b' n' c') ((wbehind_calls J K hM βw p lo st cb cl cc bm ob on oc wr cs z f b n c xs hl hsm hz mp hf hn hnc hns).mono ?_)).mono ?_
  · rintro e o ⟨N, rfl, b', n', c', he, hq⟩
    exact ⟨_, _, List.perm_append_comm (l₁ := [J, wBlk βw p lo st cb cl cc bm ob on oc wr, hM]) (l₂ := K :: N), rfl, N, rfl, b', n', c', he, hq⟩
  · rintro e o ⟨A, N, K', rfl, hK, rfl, N0, rfl, b', n', c', he, hq⟩
    refine ⟨K', rfl, hK K (List.mem_cons_self ..), b', n', c', he, fun s hs => ?_⟩
    obtain ⟨h1, h2, h3⟩ := hq s hs
    exact ⟨h1, h2, h3.allK hK⟩
theorem places_calls (βw : Nat) : SL.T Try.prog 39 [.pointer (some ⟨βw, 0, none⟩)] [] fun e o => ∃ β2, e = .returned (.func (.func 49) #[] #[.pointer (some ⟨β2, 0, none⟩)]) ∧ o = [blk β2 (.cells ⟨[.pointer (some ⟨βw, 0, none⟩)]⟩ 67 (0, 0))] := by
  refine t_of_body Try.func39 rfl (Nat.le_of_ble_eq_true rfl) fun F => ?_
  repeat' (first
    | refine swp_seq ?_
    | (refine gk 0 rfl ?_; first | refine sl_op rfl rfl rfl (by first | exact opv_assign rfl rfl | exact opv_makeFunc rfl rfl rfl) ?_ )
    | (refine gk 5 rfl ?_; first | refine sl_box rfl rfl rfl rfl rfl rfl (fun β => ?_) )
    | refine sl_region rfl ?_
    | refine sl_nil ?_
    | refine thn_k ?_
    | refine swp_ret ?_
    )
  exact end_retL [blk β (.cells ⟨[.pointer (some ⟨βw, 0, none⟩)]⟩ 67 (0, 0))] (resOk_one (resV_tmp rfl)) ⟨β, rfl, rfl⟩
/-- What is handed out next. -/
def nxW (βw k : Nat) (H : Heap) (o : Option (List Value)) : Prop :=
  ∃ (p lo st cb m : Value) (ob : Option Addr) (on oc : Nat) (wr : Value) (V : List Int), H (.b βw) = some (.o (.cells ⟨[p, lo, st, cb, m, .slice ob on oc, wr]⟩ 71 (0, 0))) ∧ Sl H ob (V.map i64) ∧ V.length = on ∧ on ≤ 4000000 ∧ o = (V[k]?).map fun z => [i64 z]
theorem nxW_mono (βw k : Nat) (H H' : Heap) (o : Option (List Value)) (h : hle H H') : nxW βw k H o → nxW βw k H' o := by
  rintro ⟨p, lo, st, cb, m, ob, on, oc, wr, V, h1, h2, h3, h4, h5⟩
  exact ⟨p, lo, st, cb, m, ob, on, oc, wr, V, h _ _ h1, h2.mono h, h3, h4, h5⟩
theorem places_iter (βw β2 : Nat) : IterL Try.prog 49 [] [.pointer (some ⟨β2, 0, none⟩)] [blk β2 (.cells ⟨[.pointer (some ⟨βw, 0, none⟩)]⟩ 67 (0, 0))] (nxW βw) := by
  intro L J Jd Jx hy H h0
  refine t_of_body Try.func49 rfl (Nat.le_of_ble_eq_true rfl) fun F => ?_
  repeat' (first
    | refine swp_seq ?_
    | (refine gk 0 rfl ?_; first | refine sl_op rfl rfl rfl (by first | exact opv_assign rfl rfl ) ?_ )
    | refine sl_region rfl ?_
    | refine sl_nil ?_
    | refine thn_k ?_
    | refine swp_block ?_
    )
  refine swp_loopS (fun s : (Nat × Heap) => [(0, .func (.yield L) #[] #[]), (1, .pointer (some ⟨β2, 0, none⟩)), (3, i64 (s.1 : Int))])
    (fun s => [s.2, blk β2 (.cells ⟨[.pointer (some ⟨βw, 0, none⟩)]⟩ 67 (0, 0))]) (fun s => s.1 ≤ 4000000 ∧ J s.1 s.2) (fun s => 4000001 - s.1) (0, H) (by repeat first | exact Sub.nil _ | refine Sub.cons rfl ?_) ⟨Nat.zero_le _, h0⟩ ?_
  clear h0
  rintro ⟨k, H⟩ ⟨hk, hJ⟩
  dsimp only at hk hJ ⊢
  rcases hy k H hJ with ⟨x, ⟨p, lo, st, cb, m, ob, on, oc, wr, V, hb, sl, hl, hon, hx⟩, hY⟩ | ⟨⟨p, lo, st, cb, m, ob, on, oc, wr, V, hb, sl, hl, hon, hx⟩, hD⟩
  · haveI : InH H βw _ := ⟨hb⟩
    have hx2 := hx.symm
    rw [Option.map_eq_some_iff] at hx2
    obtain ⟨z, hz, rfl⟩ := hx2
    have hkl := (List.getElem?_eq_some_iff.1 hz).1
    have hcx : (V.map i64)[((k : Nat) : Int).toNat * 1]? = some (i64 z) := by simp [hz]
    repeat' (first
      | refine swp_seq ?_
      | (refine gk 0 rfl ?_; first | refine sl_op rfl rfl rfl (by first | exact opv_move rfl rfl ) ?_ )
      | (refine gk 2 rfl ?_; first | refine sl_yes rfl rfl rfl (by first | exact opv_lss rfl rfl rfl ) (by first | omega ) ?_ )
      | (refine gk 3 rfl ?_; first | refine sl_op rfl rfl rfl (by first | exact opv_load rfl (by exact rfl) rfl (by exact rfl) | exact opv_fieldAddr rfl rfl | exact opv_indexAddrI rfl rfl rfl (by omega) (by omega) (by first | (simp only [List.length_map]; omega) ) | exact opv_loadEx rfl (by exact rfl) (by infer_instance) (by first | assumption ) ) ?_ )
      | (refine gk 4 rfl ?_; first | refine sl_op rfl rfl rfl (by first | exact opv_len rfl rfl rfl rfl rfl ) ?_)
      | (refine gk 5 rfl ?_; first | refine sl_op rfl rfl rfl (by first | exact opv_nilCheck rfl rfl ) ?_ )
      | refine sl_region rfl ?_
      | refine sl_nil ?_
      | refine thn_k ?_
      | refine swp_true rfl ?_
      | refine swp_block ?_
      | refine swp_skip ?_
      )
    refine sl_hop (hs := [H]) rfl rfl rfl (hop_yield rfl rfl rfl rfl hY) ?_
    rintro v own' ⟨H', rfl, ⟨rfl, hJ'⟩ | ⟨rfl, hJ'⟩⟩ <;> refine ⟨_, rfl, ?_⟩
    · repeat' (first
        | (refine gk 0 rfl ?_; first | refine sl_op rfl rfl rfl (by first | exact opv_move rfl rfl | exact opv_assign rfl rfl | exact opv_not_t rfl rfl ) ?_ )
        | (refine gk 1 rfl ?_; first | refine sl_op rfl rfl rfl (by first | exact opv_add64 rfl rfl rfl (by omega) (by omega) ) ?_ )
        | refine sl_region rfl ?_
        | refine sl_nil ?_
        | refine thn_k ?_
        | refine swp_false rfl ?_
        | refine swp_skip ?_
        )
      exact ⟨rfl, (k + 1, H'), next_ok (by repeat first | exact Sub.nil _ | refine Sub.cons rfl ?_), ⟨by dsimp only; omega, hJ'⟩, by dsimp only; omega⟩
    · repeat' (first
        | (refine gk 0 rfl ?_; first | refine sl_op rfl rfl rfl (by first | exact opv_not_f rfl rfl ) ?_ )
        | refine sl_nil ?_
        | refine thn_k ?_
        | refine swp_true rfl ?_
        | refine swp_ret ?_
        | refine thn_ret ?_
        | refine inb_ret ?_
        )
      exact end_retL [H', blk β2 (.cells ⟨[.pointer (some ⟨βw, 0, none⟩)]⟩ 67 (0, 0))] resOk_nil ⟨rfl, H', rfl, .inr hJ'⟩
  · haveI : InH H βw _ := ⟨hb⟩
    have hkl : on ≤ k := by
      have := hx.symm
      rw [Option.map_eq_none_iff, List.getElem?_eq_none_iff] at this
      omega
    repeat' (first
      | refine swp_seq ?_
      | (refine gk 0 rfl ?_; first | refine sl_op rfl rfl rfl (by first | exact opv_move rfl rfl ) ?_ )
      | (refine gk 2 rfl ?_; first | refine sl_no rfl rfl rfl (by first | exact opv_lss rfl rfl rfl ) (by first | omega ) ?_ )
      | (refine gk 3 rfl ?_; first | refine sl_op rfl rfl rfl (by first | exact opv_load rfl (by exact rfl) rfl (by exact rfl) | exact opv_fieldAddr rfl rfl ) ?_ )
      | (refine gk 4 rfl ?_; first | refine sl_op rfl rfl rfl (by first | exact opv_len rfl rfl rfl rfl rfl ) ?_)
      | (refine gk 5 rfl ?_; first | refine sl_op rfl rfl rfl (by first | exact opv_nilCheck rfl rfl ) ?_ )
      | refine sl_region rfl ?_
      | refine sl_nil ?_
      | refine thn_k ?_
      | refine swp_false rfl ?_
      | refine swp_exit ?_
      | refine thn_exit ?_
      | refine inb_exit ?_
      )
    exact end_ret' [H, blk β2 (.cells ⟨[.pointer (some ⟨βw, 0, none⟩)]⟩ 67 (0, 0))] resOk_nil ⟨rfl, H, rfl, .inl hD⟩
end Go.Proofs.Ytifhhfeibnpaoaa
