/- What an instruction makes of a frame; frames joined, over one heap. -/
import Derived.Test.YtnfepffmlhmmhaaWP
import Derived.Test.YtnfepffmlhmmhaaWI1
namespace Go.Proofs.Ytnfepffmlhmmhaa
open Go.SL
set_option maxRecDepth 100000
set_option maxHeartbeats 16000000
theorem Step_calls (K : Heap) (im : Im) (clb mb lb sb : Option Addr) (cln clc mn mc ln lc sn sc : Nat) (mi at_ : Int) (loc stk : List Int) (hcls : ClsOk K im.cls clb cln) (hms : MsOk K im.ms mb mn) (sl1 : Sl K lb (loc.map i64)) (sl2 : Sl K sb (stk.map i64)) (hl : loc.length = ln) (hs : stk.length = sn) (hln : ln ≤ 4000000) (hsn : sn ≤ 2000000) (hsc : sn ≤ sc) :
    SL.T Try.prog 11 [.agg ⟨[.slice clb cln clc, .slice mb mn mc]⟩, i64 mi, fr lb sb ln sn lc sc, i64 at_] [K] (StepQ K (stepF im mi at_ loc stk)) := by
  have hms' := hms
  obtain ⟨vals, h1, h2, h3, h4, h5⟩ := hms
  by_cases h : 0 ≤ mi ∧ mi < mn
  · have e1 : inL im.ms mi = true := decide_eq_true (by omega)
    obtain ⟨m, hm⟩ : ∃ z, im.ms[mi.toNat]? = some z := ⟨_, List.getElem?_eq_getElem (by omega)⟩
    by_cases ha : 0 ≤ at_ ∧ at_ < m.code.length
    · have e2 : inL m.code at_ = true := decide_eq_true ha
      obtain ⟨y, hy⟩ : ∃ z, m.code[at_.toNat]? = some z := ⟨_, List.getElem?_eq_getElem (by omega)⟩
      cases hr : rowOf im m loc y.op y.a y.b with
      | none =>
        have e : stepF im mi at_ loc stk = .inl 8 := by simp only [stepF, e1, if_true, hm, e2, hy, hr]
        rw [e]
        exact Step_o K im clb mb lb sb cln clc mn mc ln lc sn sc mi at_ loc stk hcls hms' hl hs hln (by omega) m y h hm ha hy hr
      | some r =>
        have e : stepF im mi at_ loc stk = afterF m y loc stk r := by simp only [stepF, e1, if_true, hm, e2, hy, hr]; rfl
        rw [e]
        refine step_join (Step_r K im clb mb lb sb cln clc mn mc ln lc sn sc mi at_ loc stk hcls hms' hl hs hln hsn hsc m y h hm ha hy r hr ⟨?_, by have := row_put hr; omega⟩)
        rcases row_take hr with q | ⟨m', hm', q⟩
        · omega
        · obtain ⟨i, hi⟩ := List.mem_iff_getElem?.1 hm'
          obtain ⟨pb, pn, pc, cb, cn, cc, g1, g2, g3, g4, g5, g6, g7, -⟩ := h5 i m' hi
          rw [q]; omega
    · have e2 : inL m.code at_ = false := decide_eq_false ha
      have e : stepF im mi at_ loc stk = .inl 8 := by simp [stepF, e1, hm, e2]
      rw [e]
      exact step_pure (Step_y K im clb mb lb sb cln clc mn mc ln lc sn sc mi at_ loc stk hcls hms' m h hm ha)
  · have e1 : inL im.ms mi = false := decide_eq_false (by omega)
    have e : stepF im mi at_ loc stk = .inl 8 := by simp [stepF, e1]
    rw [e]
    exact step_pure (Step_m K im clb mb lb sb cln clc mn mc ln lc sn sc mi at_ loc stk hcls hms' h)
/-- Whatever it answers. -/
theorem Step_any {K : Heap} {args : List Value} {res : Int ⊕ (List Int × List Int)} (h : SL.T Try.prog 11 args [K] (StepQ K res)) :
    SL.T Try.prog 11 args [K] fun e o => ∃ K', o = [K'] ∧ hle K K' ∧ ∃ a b n m c d z, e = .returned (.tuple #[fr a b n m c d, i64 z]) := by
  refine h.mono ?_
  rintro e o ⟨K', h1, h2, h3⟩
  refine ⟨K', h1, h2, ?_⟩
  cases res with
  | inl c => exact ⟨_, _, _, _, _, _, _, h3⟩
  | inr p =>
    obtain ⟨b1, c1, b2, c2, h4, -⟩ := h3
    exact ⟨_, _, _, _, _, _, _, h4⟩
theorem Join_K (K : Heap) (a b a' b' : Option Addr) (n m n' m' c d c' d' : Nat) (xs ys xs' ys' : List Int) (s1 : Sl K a (xs.map i64)) (s2 : Sl K b (ys.map i64)) (s3 : Sl K a' (xs'.map i64)) (s4 : Sl K b' (ys'.map i64))
    (h1 : xs.length = n) (h2 : ys.length = m) (h3 : xs'.length = n') (h4 : ys'.length = m') (hsm : n ≤ 4000000) (hsm2 : m ≤ 4000000) (hn : n = n') (hy : ys = ys') :
    SL.T Try.prog 8 [fr a b n m c d, fr a' b' n' m' c' d'] [K] fun e o => ∃ K', o = [K'] ∧ hle K K' ∧ ∃ b1 c1 b2 c2, e = .returned (.tuple #[fr b1 b2 n m c1 c2, .bool true]) ∧ Sl K' b1 ((joinL xs xs').map i64) ∧ Sl K' b2 (ys.map i64) ∧ m ≤ c2 := by
  refine (T_joinP (R := fun e A N => A = [] ∧ ∃ h1 h2 b1 c1 b2 c2, N = [K, h1, h2] ∧ e = .returned (.tuple #[fr b1 b2 n m c1 c2, .bool true]) ∧ OS h1 b1 n c1 27 1 ((joinL xs xs').map i64) ∧ OS h2 b2 m c2 27 1 (ys.map i64)) ((Join_calls K a b a' b' n m n' m' c d c' d' xs ys xs' ys' h1 h2 h3 h4 hsm hsm2 hn hy).mono ?_)).mono ?_
  · rintro e o ⟨N, rfl, q1, q2, b1, c1, b2, c2, rfl, rfl, os1, os2⟩
    exact ⟨[], _, by simp, rfl, q1, q2, b1, c1, b2, c2, rfl, rfl, os1, os2⟩
  · rintro e o ⟨A, N, K', rfl, hK, rfl, q1, q2, b1, c1, b2, c2, rfl, rfl, os1, os2⟩
    exact ⟨K', rfl, hK K (by simp), b1, c1, b2, c2, rfl, os1.sl.mono (hK q1 (by simp)), os2.sl.mono (hK q2 (by simp)), os2.hle⟩
end Go.Proofs.Ytnfepffmlhmmhaa
