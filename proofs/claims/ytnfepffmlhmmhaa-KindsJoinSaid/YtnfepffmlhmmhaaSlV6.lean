/- Closed calls, run by the kernel: one quiet operation. -/
import Derived.Test.YtnfepffmlhmmhaaSlV5
set_option linter.unusedVariables false
set_option linter.unusedSimpArgs false
namespace Go.SL
noncomputable section

section
variable {P : Program} {ρ : Rn} {E : VE} {env : Env} {H : VH} {own hs : List Heap} {n : Nat} {o : Oper}

def tupOf : VV → Option (List VV)
  | .tup l => some l
  | .lit (.tuple ⟨l⟩) => some (lits l)
  | _ => none
theorem tupOf_ok {v : VV} {y : Value} {l : List VV} (hy : den ρ v = some y) (h : tupOf v = some l) : ∃ xs, denL ρ l = some xs ∧ y = .tuple ⟨xs⟩ := by
  unfold tupOf at h
  split at h
  · cases h; exact den_tup hy
  · cases h; cases hy; exact ⟨_, denL_lits _, rfl⟩
  · cases h
def isIface (P : Program) (t : TypeId) : Option Bool := match P.underlying t with
  | some (.interface _) => some true
  | some _ => some false
  | none => none
/-- The first that is there. -/
def orV : Option VV → Option VV → Option VV
  | some v, _ => some v
  | none, x => x
theorem orV_some {a b : Option VV} {v : VV} (h : orV a b = some v) : a = some v ∨ (a = none ∧ b = some v) := by
  cases a with
  | some x => exact .inl h
  | none => exact .inr ⟨rfl, h⟩
/-- Whole numbers, quick. -/
def intBin (op : BinOp) (k : IntKind) (a b : Int) : Option Value := match op with
  | .add => some (.int k (k.wrap (a + b)))
  | .sub => some (.int k (k.wrap (a - b)))
  | .lss => some (.bool (decide (a < b)))
  | .leq => some (.bool (decide (a ≤ b)))
  | .gtr => some (.bool (decide (b < a)))
  | .geq => some (.bool (decide (b ≤ a)))
  | .eql => some (.bool (decide (a = b)))
  | .neq => some (.bool (!decide (a = b)))
  | _ => none
def quickBin (E : VE) (op : BinOp) (x y : Operand) : Option VV := match evV E x, evV E y with
  | some (.lit (.int k a)), some (.lit (.int k' b)) => match decide (k = k') with
    | true => match intBin op k a b with
      | some v => some (.lit v)
      | none => none
    | false => none
  | _, _ => none
theorem quickBin_ok {op : BinOp} {t t2 : TypeId} {x y : Operand} {v : VV} (he : denEnv ρ E = some env) (ho : o.op = .binOp op t x y t2) (h : quickBin E op x y = some v) : ∃ r, den ρ v = some r ∧ OpV P hs n o env r := by
  unfold quickBin at h
  split at h
  · rename_i k a k' b h1 h2
    by_cases hk : k = k'
    · subst hk
      rw [decide_eq_true rfl] at h
      simp only at h
      obtain ⟨y1, g1, g2⟩ := evV_den he h1
      obtain ⟨y2, g3, g4⟩ := evV_den he h2
      cases g2; cases g4
      cases op <;> simp only [intBin] at h <;> cases h
      · exact ⟨_, rfl, opv_add ho g1 g3⟩
      · exact ⟨_, rfl, opv_sub ho g1 g3⟩
      · exact ⟨_, rfl, opv_eql ho g1 g3⟩
      · refine ⟨_, rfl, (opv_neq ho g1 g3).to ?_⟩
        by_cases e : a = b <;> simp [e]
      · exact ⟨_, rfl, opv_lss ho g1 g3⟩
      · exact ⟨_, rfl, opv_leq ho g1 g3⟩
      · exact ⟨_, rfl, opv_gtr ho g1 g3⟩
      · exact ⟨_, rfl, opv_geq ho g1 g3⟩
    · rw [decide_eq_false hk] at h; cases h
  · cases h
def loadQ (P : Program) (E : VE) (H : VH) (t : TypeId) (x : Operand) : Option VV := match evV E x with
  | some (.ptr b off) => loadV P H t b off
  | _ => none
theorem loadQ_ok {t : TypeId} {x : Operand} {v : VV} (he : denEnv ρ E = some env) (hH : denH ρ H = some own) (hsub : ∀ h ∈ own, h ∈ hs) (ho : o.op = .load t x) (h : loadQ P E H t x = some v) : ∃ r, den ρ v = some r ∧ OpV P hs n o env r := by
  unfold loadQ at h
  split at h
  · rename_i b off hx
    obtain ⟨y, g1, g2⟩ := evV_den he hx
    obtain ⟨i, hi, rfl⟩ := den_ptr g2
    obtain ⟨r, q1, q2⟩ := loadV_ok hH hsub h hi
    refine ⟨r, q1, by rw [ho]; rfl, fun a w X ha s => ⟨w, s, .inl ?_⟩⟩
    simp [execOp, ho, ha.eval g1, Instr.loadAt, Instr.sureAddr, q2 w X s]
  · cases h
def callQ (P : Program) (E : VE) (H : VH) (c : Call) : Option VV := match c.callee, c.args.toList, c.argTypes.toList with
  | .builtin .len, [x], [t] => match evV E x with
    | some u => lenV P H t u
    | none => none
  | _, _, _ => none
theorem callQ_ok {c : Call} {v : VV} (he : denEnv ρ E = some env) (hH : denH ρ H = some own) (hsub : ∀ h ∈ own, h ∈ hs) (ho : o.op = .call c) (h : callQ P E H c = some v) : ∃ r, den ρ v = some r ∧ OpV P hs n o env r := by
  unfold callQ at h
  split at h
  · rename_i x t hc hx ht
    split at h
    · rename_i u hu
      obtain ⟨y, g1, g2⟩ := evV_den he hu
      exact lenV_ok hH hsub ho hc (Array.ext' (by simpa using hx)) (Array.ext' (by simpa using ht)) g1 g2 h
    · cases h
  · cases h
def qPick (E : VE) (c x y : Operand) : Option VV := match evV E c with
  | some (.lit (.bool true)) => evV E x
  | some (.lit (.bool false)) => evV E y
  | _ => none
def qExtract (E : VE) (x : Operand) (k : Nat) : Option VV := match evV E x with
  | some u => match tupOf u with
    | some l => nthF l k
    | none => none
  | none => none
def qFieldAddr (P : Program) (E : VE) (t : TypeId) (x : Operand) (k : Nat) : Option VV := match evV E x with
  | some u => fieldAddrV P t k u
  | none => none
def qField (P : Program) (E : VE) (o : Oper) (t : TypeId) (x : Operand) (k : Nat) : Option VV := match evV E x with
  | some u => orV (fieldV P t k u) (evPure P E o)
  | none => none
def qIndexAddr (P : Program) (E : VE) (t : TypeId) (x ix : Operand) : Option VV := match evV E x, evV E ix with
  | some u, some w => indexAddrV P t u w
  | _, _ => none
def qIndex (P : Program) (E : VE) (o : Oper) (t : TypeId) (x ix : Operand) : Option VV := match evV E x, evV E ix with
  | some u, some w => orV (indexV P t u w) (evPure P E o)
  | _, _ => none
def qBin (P : Program) (E : VE) (o : Oper) (op : BinOp) (t : TypeId) (x y : Operand) : Option VV := orV (quickBin E op x y) (orV (evPure P E o) (eqlV P E op t x y))
def qFunc (E : VE) (f : Fn) (xs ys : Array Operand) : Option VV := match evsV E xs.toList, evsV E ys.toList with
  | some a, some c => some (.fn f a c)
  | _, _ => none
def qIface (P : Program) (E : VE) (t : TypeId) (x : Operand) : Option VV := match isIface P t, evV E x with
  | some false, some u => some (.ifc t u)
  | _, _ => none
def qSlice (P : Program) (E : VE) (o : Oper) (t : TypeId) (x : Operand) (lo hi mx : Option Operand) : Option VV := match evV E x with
  | some u => orV (sliceV P E t lo hi mx u) (evPure P E o)
  | none => none
def qLookup (P : Program) (H : VH) (E : VE) (o : Oper) (t : TypeId) (x ix : Operand) (ok : Bool) : Option VV := match evV E x, evV E ix with
  | some u, some w => orV (lookupV P H t ok u w) (evPure P E o)
  | _, _ => none
def qNil (P : Program) (E : VE) (o : Oper) (x : Operand) : Option VV := match evV E x with
  | some (.ptr b off) => some (.ptr b off)
  | some _ => evPure P E o
  | none => none
/-- 'not', quick. -/
def qUn (P : Program) (E : VE) (o : Oper) (op : UnOp) (x : Operand) : Option VV := match op, evV E x with
  | .not, some (.lit (.bool true)) => some (.lit (.bool false))
  | .not, some (.lit (.bool false)) => some (.lit (.bool true))
  | _, _ => evPure P E o
/-- One quiet operation. -/
def evQ (P : Program) (H : VH) (E : VE) (o : Oper) : Option VV := match o.op with
  | .move x | .assign x => evV E x
  | .pick c x y => qPick E c x y
  | .extract x k => qExtract E x k
  | .load t x => loadQ P E H t x
  | .fieldAddr t x k => qFieldAddr P E t x k
  | .field t x k => qField P E o t x k
  | .indexAddr t x ix => qIndexAddr P E t x ix
  | .index t x ix => qIndex P E o t x ix
  | .binOp op t x y _ => qBin P E o op t x y
  | .build t ps => buildV P E t ps.toList
  | .makeFunc f xs ys => qFunc E f xs ys
  | .makeInterface t x => qIface P E t x
  | .slice t x lo hi mx => qSlice P E o t x lo hi mx
  | .lookup t x ix ok => qLookup P H E o t x ix ok
  | .nilCheck x => qNil P E o x
  | .call c => orV (callQ P E H c) (evPure P E o)
  | .unOp op _ x => qUn P E o op x
  | .convert .. => evPure P E o
  | _ => none
theorem evQ_ok {v : VV} (he : denEnv ρ E = some env) (hH : denH ρ H = some own) (hsub : ∀ h ∈ own, h ∈ hs) (h : evQ P H E o = some v) : ∃ r, den ρ v = some r ∧ OpV P hs n o env r := by
  unfold evQ at h
  split at h
  · rename_i x ho
    obtain ⟨y, g1, g2⟩ := evV_den he h
    exact ⟨y, g2, opv_move ho g1⟩
  · rename_i x ho
    obtain ⟨y, g1, g2⟩ := evV_den he h
    exact ⟨y, g2, opv_assign ho g1⟩
  · rename_i c x y ho
    unfold qPick at h
    split at h
    · rename_i hc
      obtain ⟨z, g1, g2⟩ := evV_den he hc; cases g2
      obtain ⟨y, g3, g4⟩ := evV_den he h
      exact ⟨y, g4, opv_pick_t ho g1 g3⟩
    · rename_i hc
      obtain ⟨z, g1, g2⟩ := evV_den he hc; cases g2
      obtain ⟨y, g3, g4⟩ := evV_den he h
      exact ⟨y, g4, opv_pick_f ho g1 g3⟩
    · cases h
  · rename_i x k ho
    unfold qExtract at h
    split at h
    · rename_i u hu
      split at h
      · rename_i l hl
        rw [nthF_eq] at h
        obtain ⟨y, g1, g2⟩ := evV_den he hu
        obtain ⟨xs, g3, rfl⟩ := tupOf_ok g2 hl
        obtain ⟨r, g4, g5⟩ := denL_nth g3 h
        exact ⟨r, g5, opv_extract ho g1 g4⟩
      · cases h
    · cases h
  · rename_i t x ho
    exact loadQ_ok he hH hsub ho h
  · rename_i t x k ho
    unfold qFieldAddr at h
    split at h
    · rename_i u hu
      obtain ⟨y, g1, g2⟩ := evV_den he hu
      exact fieldAddrV_ok ho g1 g2 h
    · cases h
  · rename_i t x k ho
    unfold qField at h
    split at h
    · rename_i u hu
      obtain ⟨y, g1, g2⟩ := evV_den he hu
      rcases orV_some h with h | ⟨-, h⟩
      · exact fieldV_ok ho g1 g2 h
      · exact evPure_ok he h
    · cases h
  · rename_i t x ix ho
    unfold qIndexAddr at h
    split at h
    · rename_i u w hu hw
      obtain ⟨y, g1, g2⟩ := evV_den he hu
      obtain ⟨z, g3, g4⟩ := evV_den he hw
      exact indexAddrV_ok ho g1 g2 g3 g4 h
    · cases h
  · rename_i t x ix ho
    unfold qIndex at h
    split at h
    · rename_i u w hu hw
      obtain ⟨y, g1, g2⟩ := evV_den he hu
      obtain ⟨z, g3, g4⟩ := evV_den he hw
      rcases orV_some h with h | ⟨-, h⟩
      · exact indexV_ok ho g1 g2 g3 g4 h
      · exact evPure_ok he h
    · cases h
  · rename_i op t x y t2 ho
    unfold qBin at h
    rcases orV_some h with h | ⟨-, h⟩
    · exact quickBin_ok he ho h
    · rcases orV_some h with h | ⟨-, h⟩
      · exact evPure_ok he h
      · exact eqlV_ok he ho h
  · rename_i t ps ho
    exact buildV_ok he ho h
  · rename_i f xs ys ho
    unfold qFunc at h
    split at h
    · rename_i a c ha hc
      cases h
      obtain ⟨vs, g1, g2⟩ := evsV_den he ha
      obtain ⟨us, g3, g4⟩ := evsV_den he hc
      exact ⟨.func f ⟨vs⟩ ⟨us⟩, by simp only [den, g2, g4], opv_makeFunc ho g1 g3⟩
    · cases h
  · rename_i t x ho
    unfold qIface at h
    split at h
    · rename_i u hi hu
      cases h
      obtain ⟨y, g1, g2⟩ := evV_den he hu
      refine ⟨.iface t y, by simp only [den, g2], opv_run (by rw [ho]; rfl) fun a w ha => ?_⟩
      unfold isIface at hi
      split at hi
      · cases hi
      · rename_i d hd hn
        cases d <;> first | exact (hd _ rfl).elim | simp [execOp, ho, ha.eval g1, Instr.makeInterface, run_und hn]
      · cases hi
    · cases h
  · rename_i t x lo hi mx ho
    unfold qSlice at h
    split at h
    · rename_i u hu
      obtain ⟨y, g1, g2⟩ := evV_den he hu
      rcases orV_some h with h | ⟨-, h⟩
      · exact sliceV_ok he ho g1 g2 h
      · exact evPure_ok he h
    · cases h
  · rename_i t x ix ok ho
    unfold qLookup at h
    split at h
    · rename_i u w hu hw
      obtain ⟨y, g1, g2⟩ := evV_den he hu
      obtain ⟨z, g3, g4⟩ := evV_den he hw
      rcases orV_some h with h | ⟨-, h⟩
      · exact lookupV_ok hH hsub ho g1 g2 g3 g4 h
      · exact evPure_ok he h
    · cases h
  · rename_i x ho
    unfold qNil at h
    split at h
    · rename_i b off hu
      cases h
      obtain ⟨y, g1, g2⟩ := evV_den he hu
      refine ⟨y, g2, opv_run (by rw [ho]; rfl) fun a w ha => ?_⟩
      obtain ⟨i, hi, rfl⟩ := den_ptr g2
      simp [execOp, ho, ha.eval g1]
    · exact evPure_ok he h
    · cases h
  · rename_i c ho
    rcases orV_some h with h | ⟨-, h⟩
    · exact callQ_ok he hH hsub ho h
    · exact evPure_ok he h
  · rename_i op t x ho
    unfold qUn at h
    split at h
    · rename_i hu
      cases h
      obtain ⟨y, g1, g2⟩ := evV_den he hu
      cases g2
      exact ⟨_, rfl, opv_not_t ho g1⟩
    · rename_i hu
      cases h
      obtain ⟨y, g1, g2⟩ := evV_den he hu
      cases g2
      exact ⟨_, rfl, opv_not_f ho g1⟩
    · exact evPure_ok he h
  · exact evPure_ok he h
  · cases h
end
end
end Go.SL
