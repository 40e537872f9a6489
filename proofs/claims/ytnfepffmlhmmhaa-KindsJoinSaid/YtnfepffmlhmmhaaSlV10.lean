/- Closed calls, run by the kernel: append. -/
import Derived.Test.YtnfepffmlhmmhaaSlV9
set_option linter.unusedVariables false
set_option linter.unusedSimpArgs false
namespace Go.SL
noncomputable section

section
variable {P : Program} {ρ : Rn} {E : VE} {env : Env} {H : VH} {own hs : List Heap} {n nx : Nat} {o : Oper}

/-- How append goes: in its place; into a new block; it is not known which. -/
def growV (H : VH) (nx : Nat) (e : TypeId) (sz : Nat) (b off len : Nat) (c : Cap) (m : Nat) (news : List VV) : Option (VV × VH × Nat) := match c with
  | .k k => match Nat.ble (len + m) k with
    | true => match putCells H b (off + len * sz) news with
      | some H' => some (.slc b off (len + m) (.k k), H', nx)
      | none => none
    | false => match cellsAt H b off (len * sz) with
      | some olds => some (.slc nx 0 (len + m) (.o 0 (len + m) sz), (nx, .cells (olds ++ news) e) :: H, nx + 1)
      | none => none
  | .o mm lb s => match cellsAt H b off (len * sz), Nat.beq s sz, Nat.beq off (mm * sz), oneVs news with
    | some olds, true, true, true => match getH H b with
      | some (.cells _ T) => match Nat.beq T e with
        | true => some (.slc nx 0 (len + m) (.o 0 (len + m) sz), (nx, .cells (olds ++ news) e) :: delH H b, nx + 1)
        | false => none
      | _ => none
    | _, _, _, _ => none
def appendV (P : Program) (E : VE) (H : VH) (nx : Nat) (t : TypeId) (x y : Operand) : Option (VV × VH × Nat) := match P.underlying t with
  | some (.slice e) => match P.info? e with
    | some i => match i.zero, evV E x, evV E y with
      | some z, some (.slc b off len c), some (.slc b2 off2 m c2) => match m with
        | 0 => match Nat.ble len c.lb with
          | true => some (.slc b off len c, H, nx)
          | false => none
        | m + 1 => match cellsAt H b2 off2 ((m + 1) * i.size), Nat.ble ((len + (m + 1)) * i.bytes) 70368744177664, Nat.ble (len + (m + 1)) 70368744177664, Nat.beq z.cells.size i.size with
          | some news, true, true, true => growV H nx e i.size b off len c (m + 1) news
          | _, _, _, _ => none
      | some z, some (.slc b off len c), some (.lit (.slice none 0 0)) => match Nat.ble len c.lb with
        | true => some (.slc b off len c, H, nx)
        | false => none
      | some z, some (.slc b off len c), some (.tl _ _ _ _ _) => match Nat.ble len c.lb with
        | true => some (.slc b off len c, H, nx)
        | false => none
      | some z, some (.tl b off d mm sz), some (.slc b2 off2 m c2) => match m with
        | 0 => some (.tl b off d mm sz, H, nx)
        | m + 1 => match cellsAt H b2 off2 ((m + 1) * i.size), Nat.ble ((0 + (m + 1)) * i.bytes) 70368744177664, Nat.ble (0 + (m + 1)) 70368744177664, Nat.beq z.cells.size i.size with
          | some news, true, true, true => growV H nx e i.size b off 0 (.o mm 0 sz) (m + 1) news
          | _, _, _, _ => none
      | some z, some (.tl b off d mm sz), some (.lit (.slice none 0 0)) => some (.tl b off d mm sz, H, nx)
      | some z, some (.tl b off d mm sz), some (.tl _ _ _ _ _) => some (.tl b off d mm sz, H, nx)
      | some z, some (.lit (.slice none 0 0)), some (.tl _ _ _ _ _) => some (.lit (.slice none 0 0), H, nx)
      | some z, some (.lit (.slice none 0 0)), some (.slc b2 off2 m c2) => match m with
        | 0 => some (.lit (.slice none 0 0), H, nx)
        | m + 1 => match cellsAt H b2 off2 ((m + 1) * i.size), Nat.ble ((m + 1) * i.bytes) 70368744177664, Nat.ble (m + 1) 70368744177664, Nat.beq z.cells.size i.size with
          | some news, true, true, true => some (.slc nx 0 (m + 1) (.o 0 (m + 1) i.size), (nx, .cells news e) :: H, nx + 1)
          | _, _, _, _ => none
      | _, _, _ => none
    | none => none
  | _ => none

theorem run_app {o : Oper} {n : Nat} {env : Env} {c : Call} {x y : Operand} {t : TypeId} {u v : Value} {a : Act} (ha : Has n env a) (ho : o.op = .call c) (hc : c.callee = .builtin .append) (hax : c.args = #[x, y]) (hat : c.argTypes = #[t, t])
    (hx : ev env x = some u) (hy : ev env y = some v) {r : Value} {w w' : World} (h : (Builtin.append_ #[t, t] o.type #[u, v]).run P w = .ok r w') : (execOp a.eval o).run P w = .ok (.value r) w' := by
  simp [execOp, ho, resolve, hc, hax, hat, invoke, builtin, ha.eval hx, ha.eval hy, h]
/-- Nothing is appended. -/
theorem run_append_none {t ty e : TypeId} {i : TypeInfo} {ad : Addr} {len cap : Nat} {v : Value} {w : World} (hu : P.underlying t = some (.slice e)) (hi : P.info? e = some i) (hle : len ≤ cap)
    (hv : (∃ b c, v = .slice (some b) 0 c) ∨ v = .slice none 0 0) : (Builtin.append_ #[t, t] ty #[.slice (some ad) len cap, v]).run P w = .ok (.slice (some ad) len cap) w := by
  rcases hv with ⟨b, c, rfl⟩ | rfl
  · have h0 : (loadCells b 0).run P w = .ok #[] w := run_loadCells_list (P := P) w b [] (fun j v hj => by cases hj)
    have hs : ∀ ad : Addr, (storeCells ad []).run P w = .ok () w := fun ad => by simp [storeCells]
    simp [Builtin.append_, run_und hu, run_size hi, Builtin.lenOf, Builtin.firstCells, hle, h0, hs]
  · have hs : ∀ ad : Addr, (storeCells ad []).run P w = .ok () w := fun ad => by simp [storeCells]
    simp [Builtin.append_, run_und hu, run_size hi, Builtin.lenOf, Builtin.firstCells, hle, hs]
theorem run_append_none0 {t ty e : TypeId} {i : TypeInfo} {b : Addr} {c : Nat} {w : World} (hu : P.underlying t = some (.slice e)) (hi : P.info? e = some i) :
    (Builtin.append_ #[t, t] ty #[.slice none 0 0, .slice (some b) 0 c]).run P w = .ok (.slice none 0 0) w := by
  have h0 : (loadCells b 0).run P w = .ok #[] w := run_loadCells_list (P := P) w b [] (fun j v hj => by cases hj)
  simp [Builtin.append_, run_und hu, run_size hi, Builtin.lenOf, Builtin.firstCells, h0]
/-- There is room. -/
theorem run_append_fit {t ty e : TypeId} {i : TypeInfo} {ad b : Addr} {len cap m c : Nat} {news : List Value} {w w' : World} (hu : P.underlying t = some (.slice e)) (hi : P.info? e = some i) (hle : len + m ≤ cap)
    (hl : news.length = m * i.size) (hn : ∀ j v, news[j]? = some v → w.cell? (b.add j) = some v) (hs : (storeCells (ad.add (len * i.size)) news).run P w = .ok () w') :
    (Builtin.append_ #[t, t] ty #[.slice (some ad) len cap, .slice (some b) m c]).run P w = .ok (.slice (some ad) (len + m) cap) w' := by
  have hfc := run_firstCells_some (P := P) w i.size m b m c news hl hn
  simp [Builtin.append_, run_und hu, run_size hi, Builtin.lenOf, hle, hfc, hs]
/-- A new block, that holds what was there, and more. -/
theorem grown_post {l : List VV} {xs : List Value} {e : TypeId} {z : Value} {sz need old : Nat} {w : World} {ρ : Rn} {own X : List Heap} {H : VH} (hf : Fresh ρ nx) (hH : denH ρ H = some own) (hl : denL ρ l = some xs) (hlen : xs.length = need * sz) (hz : z.cells.size = sz)
    (s : Sat (own ++ X) w) :
    ∃ own' w', w' = w.drew.alloc (.cells (xs.toArray ++ Builtin.zeroCells z.cells (grownCap w need old e - need)) e) ∧ Sat (own' ++ X) w' ∧
      Post ρ (.slc nx 0 need (.o 0 need sz)) ((nx, .cells l e) :: H) (nx + 1) (.slice (some ⟨w.heap.size, 0, none⟩) need (grownCap w need old e)) own' := by
  let cp := grownCap w need old e
  have hcp : need ≤ cp := by simp [cp, grownCap, Question.cut]
  have hzc : (Builtin.zeroCells z.cells (cp - need)).size = (cp - need) * sz := by simp [Builtin.zeroCells, hz]
  let i : BI := { blk := w.heap.size, pre := [], post := (Builtin.zeroCells z.cells (cp - need)).toList, cap := cp, sz := sz }
  have hi : putR ρ nx i nx = some i := putR_self ..
  have he := putR_ext hf i
  have hob : denO (putR ρ nx i) i (.cells l e) = some (.cells ⟨[] ++ xs ++ (Builtin.zeroCells z.cells (cp - need)).toList⟩ e (0, 0)) := by
    refine denO_cells_mk (denL_ext he hl) ?_
    simp only [i, Array.length_toList, hzc, hlen, ← Nat.add_mul]
    exact Nat.mul_le_mul_right _ (by omega)
  have hd : den (putR ρ nx i) (.slc nx 0 need (.o 0 need sz)) = some (.slice (some ⟨w.heap.size, 0, none⟩) need cp) := by
    have hok : i.ok (.o 0 need sz) = true := by
      simp only [BI.ok, i, Bool.and_eq_true]
      exact ⟨Nat.ble_eq_true_of_le (by omega), by simp⟩
    exact den_slc_mk hi hok
  have harr : (⟨[] ++ xs ++ (Builtin.zeroCells z.cells (cp - need)).toList⟩ : Array Value) = xs.toArray ++ Builtin.zeroCells z.cells (cp - need) := Array.ext' (by simp)
  have s2 : Sat (own ++ X) w.drew := s.heap rfl rfl rfl
  have s3 := sat_alloc s2 (.cells (xs.toArray ++ Builtin.zeroCells z.cells (cp - need)) e) (fun _ => by simp [fzo])
  rw [← harr] at s3 ⊢
  exact ⟨_, _, rfl, s3, putR ρ nx i, he, putR_fresh hf i, hd, denH_mk hi hob (denH_ext he hH)⟩
/-- What 'append' of new cells does to a slice, where it grows for sure. -/
theorem run_grow_at {t ty e : TypeId} {i : TypeInfo} {z : Value} {ad b : Addr} {len cap m c : Nat} {olds news : List Value} {w : World} (hu : P.underlying t = some (.slice e)) (hi : P.info? e = some i) (hz : i.zero = some z)
    (hlo : olds.length = len * i.size) (ho : ∀ j v, olds[j]? = some v → w.cell? (ad.add j) = some v) (hl : news.length = m * i.size) (hn : ∀ j v, news[j]? = some v → w.cell? (b.add j) = some v)
    (hg : cap < len + m) (hb1 : (len + m) * i.bytes ≤ 70368744177664) (hb2 : len + m ≤ 70368744177664) :
    (Builtin.append_ #[t, t] ty #[.slice (some ad) len cap, .slice (some b) m c]).run P w =
      .ok (.slice (some ⟨w.heap.size, 0, none⟩) (len + m) (grownCap w (len + m) cap e)) (w.drew.alloc (.cells ((olds ++ news).toArray ++ Builtin.zeroCells z.cells (grownCap w (len + m) cap e - (len + m))) e)) := by
  have hnc := nextslicecap_le hg
  have := run_append_grow (P := P) (w := w) t ty e i z hu hi hz ad len cap olds hlo ho b m c news hl hn hg (by omega) (by
    have h1 : Builtin.nextslicecap (len + m) cap * i.bytes ≤ 2 * (len + m) * i.bytes := Nat.mul_le_mul_right _ hnc
    rw [Nat.mul_assoc] at h1
    omega)
  rw [this]
  congr 2
  simp
theorem growV_ok {t e : TypeId} {i : TypeInfo} {z : Value} {c : Call} {x y : Operand} {b off len m b2 off2 : Nat} {cp c2 : Cap} {news : List VV} {r : VV × VH × Nat} (hf : Fresh ρ nx) (he : denEnv ρ E = some env) (hH : denH ρ H = some own)
    (ho : o.op = .call c) (hc : c.callee = .builtin .append) (hax : c.args = #[x, y]) (hat : c.argTypes = #[t, t]) (hu : P.underlying t = some (.slice e)) (hi : P.info? e = some i) (hz : i.zero = some z) (hzs : z.cells.size = i.size)
    {j1 : BI} {ad : Addr} (g1 : ev env x = some (.slice (some ad) len (j1.cp cp))) (hj1 : ρ b = some j1) (hok : j1.ok cp = true) (had : ad = j1.at off ∨ (len = 0 ∧ j1.cp cp = 0)) (hy : evV E y = some (.slc b2 off2 m c2)) (hnew : cellsAt H b2 off2 (m * i.size) = some news) (hm : 0 < m)
    (hb1 : (len + m) * i.bytes ≤ 70368744177664) (hb2 : len + m ≤ 70368744177664) (h : growV H nx e i.size b off len cp m news = some r) : HOp P own n o env (Post ρ r.1 r.2.1 r.2.2) := by
  obtain ⟨v2, g3, g4⟩ := evV_den he hy
  obtain ⟨j2, hj2, -, rfl⟩ := den_slc g4
  obtain ⟨ns, q1, q2, q3⟩ := cellsAt_ok hH hj2 hnew
  have atIn : len + m ≤ j1.cp cp → ad = j1.at off := fun h => by
    rcases had with h1 | ⟨h1, h2⟩
    · exact h1
    · omega
  have atRd : ∀ {os : List Value} {w : World}, os.length = len * i.size → (∀ j v, os[j]? = some v → w.cell? ((j1.at off).add j) = some v) → ∀ j v, os[j]? = some v → w.cell? (ad.add j) = some v := fun {os w} hl hr j v hv => by
    rcases had with rfl | ⟨h1, h2⟩
    · exact hr j v hv
    · rw [h1, Nat.zero_mul] at hl
      rw [List.length_eq_zero_iff.1 hl] at hv
      cases hv
  refine ⟨by rw [ho]; rfl, fun a w X ha sat => ?_⟩
  unfold growV at h
  split at h
  · rename_i k
    split at h
    · rename_i hk
      split at h
      · rename_i H' hp
        cases h
        obtain ⟨own', k1, k2⟩ := putCells_ok (P := P) hH q1 hj1 hp
        obtain ⟨w', r1, r2⟩ := k2 w X sat
        obtain rfl := atIn (Nat.le_of_ble_eq_true hk)
        refine ⟨w', .inl ⟨_, own', run_app ha ho hc hax hat g1 g3 (run_append_fit hu hi (Nat.le_of_ble_eq_true hk) q2 (q3 w X sat) (by rw [at_add]; exact r1)), r2, ρ, Ext.refl ρ, hf, den_slc_mk hj1 rfl, k1⟩⟩
      · cases h
    · rename_i hk
      split at h
      · rename_i olds hol
        cases h
        obtain ⟨os, p1, p2, p3⟩ := cellsAt_ok hH hj1 hol
        have hlt : k < len + m := by
          rcases Nat.lt_or_ge k (len + m) with h | h
          · exact h
          · have := Nat.ble_eq_true_of_le h; rw [hk] at this; cases this
        have hrun := run_grow_at (P := P) (ty := o.type) hu hi hz (cap := k) (c := j2.cp c2) p2 (atRd p2 (p3 w X sat)) q2 (q3 w X sat) hlt hb1 hb2
        obtain ⟨own', w', hw, s', hp⟩ := grown_post (nx := nx) (e := e) (z := z) (old := k) hf hH (denL_append p1 q1) (by rw [List.length_append, p2, q2, ← Nat.add_mul]) hzs sat
        exact ⟨w', .inl ⟨_, own', run_app ha ho hc hax hat g1 g3 (by rw [hw]; exact hrun), s', hp⟩⟩
      · cases h
  · rename_i mm lb s
    split at h
    · rename_i olds hol b1 b2' b3
      split at h
      · rename_i l T hg
        split at h
        · rename_i hT
          cases h
          have hs := Nat.eq_of_beq_eq_true b1
          have hoff := Nat.eq_of_beq_eq_true b2'
          have hTe := Nat.eq_of_beq_eq_true hT
          subst hs; subst hTe
          obtain ⟨j, ob, k1, k2, k3⟩ := getH_den hH hg
          rw [hj1] at k1; cases k1
          obtain ⟨rest, d1, d2⟩ := delH_den hH hg hj1 k2
          obtain ⟨xs, e1, e2, rfl⟩ := denO_cells k2
          obtain ⟨os, p1, p2, p3⟩ := cellsAt_ok hH hj1 hol
          have hsz : j1.sz = i.size := by
            simp only [BI.ok, Bool.and_eq_true] at hok
            exact Nat.eq_of_beq_eq_true hok.2
          rw [hsz] at e2
          have satr : Sat (rest ++ X) w := (sat.perm (d2.append_right X)).tail
          by_cases hfit : len + m ≤ j1.cap - mm
          · -- in its place
            obtain rfl := atIn hfit
            have hb : w.heap[j1.blk]? = some (.cells ⟨j1.pre ++ xs ++ j1.post⟩ T (0, 0)) := sat.at (List.mem_append.2 (.inl k3)) (blk_self _ _)
            have hos : os = (xs.drop off).take (len * i.size) ∧ off + len * i.size ≤ xs.length := by
              unfold cellsAt at hol
              rw [hg] at hol
              simp only at hol
              split at hol
              · rename_i m' hm'
                obtain ⟨zs, z1, z2⟩ := denL_drop e1 hm'
                obtain ⟨ws, z3, z4⟩ := denL_take z2 hol
                rw [p1] at z4; cases z4
                obtain ⟨rfl, y1⟩ := dropO_eq z1
                obtain ⟨rfl, y2⟩ := takeO_eq z3
                simp at y2
                exact ⟨rfl, by omega⟩
              · cases hol
            obtain ⟨hos, hle⟩ := hos
            have hroom : off + len * i.size + m * i.size ≤ xs.length + j1.post.length := by
              have h1 : (len + m) * i.size ≤ (j1.cap - mm) * i.size := Nat.mul_le_mul_right _ hfit
              have h2 : (j1.cap - mm) * i.size = j1.cap * i.size - mm * i.size := Nat.sub_mul ..
              rw [Nat.add_mul] at h1
              have h3 : mm * i.size ≤ j1.cap * i.size := Nat.mul_le_mul_right _ (by omega)
              omega
            have hst := run_storeCells_at P j1.blk (j1.pre.length + (off + len * i.size)) T ns 0 ⟨j1.pre ++ xs ++ j1.post⟩ w hb (by simp [q2]; omega) (oneVs_ok q1 b3)
            let post' := (xs ++ j1.post).drop (off + len * i.size + m * i.size)
            let i' : BI := { blk := j1.blk, pre := j1.pre ++ xs.take off, post := post', cap := j1.cap - mm, sz := i.size }
            have hrow : ((⟨j1.pre ++ xs ++ j1.post⟩ : Array Value).toList.take (j1.pre.length + (off + len * i.size) + 0) ++ ns ++ (⟨j1.pre ++ xs ++ j1.post⟩ : Array Value).toList.drop (j1.pre.length + (off + len * i.size) + 0 + ns.length)).toArray = ⟨i'.pre ++ (os ++ ns) ++ i'.post⟩ := by
              apply congrArg List.toArray
              show (j1.pre ++ xs ++ j1.post).take _ ++ ns ++ (j1.pre ++ xs ++ j1.post).drop _ = (j1.pre ++ xs.take off) ++ (os ++ ns) ++ (xs ++ j1.post).drop _
              rw [List.append_assoc j1.pre xs j1.post, q2, Nat.add_zero, Nat.add_assoc, List.take_append, List.take_of_length_le (by omega), Nat.add_sub_cancel_left, List.drop_append, List.drop_of_length_le (by omega), List.nil_append,
                show j1.pre.length + (off + len * i.size + m * i.size) - j1.pre.length = off + len * i.size + m * i.size by omega, List.take_append_of_le_length hle, List.take_add, ← hos]
              simp only [List.append_assoc]
            rw [hrow] at hst
            have hi' : putR ρ nx i' nx = some i' := putR_self ..
            have hext := putR_ext hf i'
            have hlen' : (j1.cap - mm) * i.size ≤ (os ++ ns).length + post'.length := by
              have h2 : (j1.cap - mm) * i.size = j1.cap * i.size - mm * i.size := Nat.sub_mul ..
              simp only [post', List.length_append, List.length_drop, p2, q2]
              omega
            have hden : denO (putR ρ nx i') i' (.cells (olds ++ news) T) = some (.cells ⟨i'.pre ++ (os ++ ns) ++ i'.post⟩ T (0, 0)) := denO_cells_mk (denL_ext hext (denL_append p1 q1)) hlen'
            have s1 : Sat (blk j1.blk (.cells ⟨j1.pre ++ xs ++ j1.post⟩ T (0, 0)) :: (rest ++ X)) w := sat.perm (d2.append_right X)
            have s2 := s1.put (setRow_heap w j1.blk _ ⟨i'.pre ++ (os ++ ns) ++ i'.post⟩ T (0, 0) hb) (by rfl) (by rfl) (fun k hk => setRow_other w j1.blk k _ hk) (fun _ => rfl)
            have hval : den (putR ρ nx i') (.slc nx 0 (len + m) (.o 0 (len + m) i.size)) = some (.slice (some (j1.at off)) (len + m) (j1.cp (.o mm lb i.size))) := by
              have hok' : i'.ok (.o 0 (len + m) i.size) = true := by
                simp only [BI.ok, i', Bool.and_eq_true]
                exact ⟨Nat.ble_eq_true_of_le (by omega), by simp⟩
              rw [den_slc_mk hi' hok']
              have : i'.at 0 = j1.at off := by
                simp only [BI.at, i', List.length_append, List.length_take]
                congr 1; omega
              rw [this]; rfl
            refine ⟨_, .inl ⟨_, blk i'.blk (.cells ⟨i'.pre ++ (os ++ ns) ++ i'.post⟩ T (0, 0)) :: rest, run_app ha ho hc hax hat g1 g3 (run_append_fit hu hi hfit q2 (q3 w X sat) (by rw [at_add]; exact hst)), s2, putR ρ nx i', hext, putR_fresh hf i', hval, denH_mk hi' hden (denH_ext hext d1)⟩⟩
          · have hrun := run_grow_at (P := P) (ty := o.type) hu hi hz (cap := j1.cap - mm) (c := j2.cp c2) p2 (atRd p2 (p3 w X sat)) q2 (q3 w X sat) (by omega) hb1 hb2
            obtain ⟨own', w', hw, s', hp⟩ := grown_post (nx := nx) (e := T) (z := z) (old := j1.cap - mm) hf d1 (denL_append p1 q1) (by rw [List.length_append, p2, q2, ← Nat.add_mul]) hzs satr
            exact ⟨w', .inl ⟨_, own', run_app ha ho hc hax hat g1 g3 (by rw [hw]; exact hrun), s', hp⟩⟩
        · cases h
      · cases h
    · cases h
theorem appendV_ok {t : TypeId} {c : Call} {x y : Operand} {r : VV × VH × Nat} (hf : Fresh ρ nx) (he : denEnv ρ E = some env) (hH : denH ρ H = some own)
    (ho : o.op = .call c) (hc : c.callee = .builtin .append) (hax : c.args = #[x, y]) (hat : c.argTypes = #[t, t]) (h : appendV P E H nx t x y = some r) : HOp P own n o env (Post ρ r.1 r.2.1 r.2.2) := by
  unfold appendV at h
  split at h
  · rename_i e hu
    split at h
    · rename_i i hi
      split at h
      · rename_i z b off len cp b2 off2 m c2 hz hx hy
        split at h
        · split at h
          · rename_i hle
            cases h
            obtain ⟨v1, g1, g2⟩ := evV_den he hx
            obtain ⟨v2, g3, g4⟩ := evV_den he hy
            obtain ⟨j1, hj1, hok, rfl⟩ := den_slc g2
            obtain ⟨j2, hj2, -, rfl⟩ := den_slc g4
            refine ⟨by rw [ho]; rfl, fun a w X ha sat => ⟨w, .inl ⟨_, own, run_app ha ho hc hax hat g1 g3 (run_append_none hu hi (Nat.le_trans (Nat.le_of_ble_eq_true hle) (BI.lb_le hok)) (.inl ⟨_, _, rfl⟩)), sat, ρ, Ext.refl ρ, hf, g2, hH⟩⟩⟩
          · cases h
        · split at h
          · rename_i news hn b1 b2 b3
            obtain ⟨v1, g1, g2⟩ := evV_den he hx
            obtain ⟨j1, hj1, hok, rfl⟩ := den_slc g2
            exact growV_ok hf he hH ho hc hax hat hu hi hz (Nat.eq_of_beq_eq_true b3) g1 hj1 hok (.inl rfl) hy hn (Nat.succ_pos _) (Nat.le_of_ble_eq_true b1) (Nat.le_of_ble_eq_true b2) h
          · cases h
      · rename_i z b off len cp hz hx hy
        split at h
        · rename_i hle
          cases h
          obtain ⟨v1, g1, g2⟩ := evV_den he hx
          obtain ⟨v2, g3, g4⟩ := evV_den he hy
          cases g4
          obtain ⟨j1, hj1, hok, rfl⟩ := den_slc g2
          refine ⟨by rw [ho]; rfl, fun a w X ha sat => ⟨w, .inl ⟨_, own, run_app ha ho hc hax hat g1 g3 (run_append_none hu hi (Nat.le_trans (Nat.le_of_ble_eq_true hle) (BI.lb_le hok)) (.inr rfl)), sat, ρ, Ext.refl ρ, hf, g2, hH⟩⟩⟩
        · cases h
      · rename_i z b off len cp _ _ _ _ _ hz hx hy
        split at h
        · rename_i hle
          cases h
          obtain ⟨v1, g1, g2⟩ := evV_den he hx
          obtain ⟨v2, g3, g4⟩ := evV_den he hy
          obtain ⟨j1, hj1, hok, rfl⟩ := den_slc g2
          obtain ⟨j2, hj2, -, rfl⟩ := den_tl g4
          exact ⟨by rw [ho]; rfl, fun a w X ha sat => ⟨w, .inl ⟨_, own, run_app ha ho hc hax hat g1 g3 (run_append_none hu hi (Nat.le_trans (Nat.le_of_ble_eq_true hle) (BI.lb_le hok)) (.inl ⟨_, _, rfl⟩)), sat, ρ, Ext.refl ρ, hf, g2, hH⟩⟩⟩
        · cases h
      · rename_i z b off d mm sz b2 off2 m c2 hz hx hy
        obtain ⟨v1, g1, g2⟩ := evV_den he hx
        obtain ⟨j1, hj1, hsz, rfl⟩ := den_tl g2
        split at h
        · cases h
          obtain ⟨v2, g3, g4⟩ := evV_den he hy
          obtain ⟨j2, hj2, -, rfl⟩ := den_slc g4
          exact ⟨by rw [ho]; rfl, fun a w X ha sat => ⟨w, .inl ⟨_, own, run_app ha ho hc hax hat g1 g3 (run_append_none hu hi (Nat.zero_le _) (.inl ⟨_, _, rfl⟩)), sat, ρ, Ext.refl ρ, hf, g2, hH⟩⟩⟩
        · rename_i m'
          split at h
          · rename_i news hn b1 b2 b3
            refine growV_ok (cp := .o mm 0 sz) hf he hH ho hc hax hat hu hi hz (Nat.eq_of_beq_eq_true b3) g1 hj1 ?_ ?_ hy hn (Nat.succ_pos _) (Nat.le_of_ble_eq_true b1) (Nat.le_of_ble_eq_true b2) h
            · simp only [BI.ok, hsz, Nat.beq_refl, Bool.and_true]
              exact Nat.ble_eq_true_of_le (Nat.zero_le _)
            · simp only [BI.cp]
              rcases Nat.eq_zero_or_pos (j1.cap - mm) with h0 | h0
              · exact .inr (by simp [h0])
              · obtain ⟨k, hk⟩ : ∃ k, j1.cap - mm = k + 1 := ⟨j1.cap - mm - 1, by omega⟩
                refine .inl ?_
                rw [hk]; rfl
          · cases h
      · rename_i z b off d mm sz hz hx hy
        cases h
        obtain ⟨v1, g1, g2⟩ := evV_den he hx
        obtain ⟨j1, hj1, hsz, rfl⟩ := den_tl g2
        obtain ⟨v2, g3, g4⟩ := evV_den he hy
        cases g4
        exact ⟨by rw [ho]; rfl, fun a w X ha sat => ⟨w, .inl ⟨_, own, run_app ha ho hc hax hat g1 g3 (run_append_none hu hi (Nat.zero_le _) (.inr rfl)), sat, ρ, Ext.refl ρ, hf, g2, hH⟩⟩⟩
      · rename_i z b off d mm sz _ _ _ _ _ hz hx hy
        cases h
        obtain ⟨v1, g1, g2⟩ := evV_den he hx
        obtain ⟨j1, hj1, hsz, rfl⟩ := den_tl g2
        obtain ⟨v2, g3, g4⟩ := evV_den he hy
        obtain ⟨j2, hj2, -, rfl⟩ := den_tl g4
        exact ⟨by rw [ho]; rfl, fun a w X ha sat => ⟨w, .inl ⟨_, own, run_app ha ho hc hax hat g1 g3 (run_append_none hu hi (Nat.zero_le _) (.inl ⟨_, _, rfl⟩)), sat, ρ, Ext.refl ρ, hf, g2, hH⟩⟩⟩
      · rename_i z _ _ _ _ _ hz hx hy
        cases h
        obtain ⟨v1, g1, g2⟩ := evV_den he hx
        cases g2
        obtain ⟨v2, g3, g4⟩ := evV_den he hy
        obtain ⟨j2, hj2, -, rfl⟩ := den_tl g4
        exact ⟨by rw [ho]; rfl, fun a w X ha sat => ⟨w, .inl ⟨_, own, run_app ha ho hc hax hat g1 g3 (run_append_none0 hu hi), sat, ρ, Ext.refl ρ, hf, rfl, hH⟩⟩⟩
      · rename_i z b2 off2 m c2 hz hx hy
        obtain ⟨v1, g1, g2⟩ := evV_den he hx
        obtain ⟨v2, g3, g4⟩ := evV_den he hy
        cases g2
        obtain ⟨j2, hj2, -, rfl⟩ := den_slc g4
        split at h
        · cases h
          exact ⟨by rw [ho]; rfl, fun a w X ha sat => ⟨w, .inl ⟨_, own, run_app ha ho hc hax hat g1 g3 (run_append_none0 hu hi), sat, ρ, Ext.refl ρ, hf, rfl, hH⟩⟩⟩
        · rename_i m'
          split at h
          · rename_i news hn b1 b2 b3
            cases h
            obtain ⟨ns, q1, q2, q3⟩ := cellsAt_ok hH hj2 hn
            refine ⟨by rw [ho]; rfl, fun a w X ha sat => ?_⟩
            have c1 := Nat.le_of_ble_eq_true b1
            have c3 := Nat.le_of_ble_eq_true b2
            have hrun := run_append_nil (P := P) (w := w) t o.type e i z hu hi hz (j2.at off2) (m' + 1) (j2.cp c2) ns q2 (q3 w X sat) (Nat.succ_pos _) (by omega) (by omega)
            obtain ⟨own', w', hw, s', hp⟩ := grown_post (nx := nx) (e := e) (z := z) (old := 0) hf hH q1 q2 (Nat.eq_of_beq_eq_true b3) sat
            exact ⟨w', .inl ⟨_, own', run_app ha ho hc hax hat g1 g3 (by rw [hw]; exact hrun), s', hp⟩⟩
          · cases h
      · cases h
    · cases h
  · cases h
end
end
end Go.SL
