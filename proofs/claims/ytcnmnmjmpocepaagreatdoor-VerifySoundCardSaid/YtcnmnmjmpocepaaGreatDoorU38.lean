
import Derived.Test.YtcnmnmjmpocepaaGreatDoorU00
import Derived.Test.YtcnmnmjmpocepaaGreatDoorU11
import Derived.Test.YtcnmnmjmpocepaaGreatDoorU34
set_option linter.unusedVariables false
set_option linter.unusedSimpArgs false
set_option linter.unusedSectionVars false
set_option maxRecDepth 100000
set_option maxHeartbeats 16000000
namespace Go.Proofs.YtcnmnmjmpocepaaGreatDoor.Cd
open Go.SL
def md(n:Int)(d:Nat):Int:=((TM n%d:Nat):Int)
where TM (n:Int):Nat:=(IntKind.u64.wrap n).toNat
theorem eL(n:Int){d:Nat}(h:0<d):0≤md n d/\md n d<d:=by
  unfold md;have:=Nat.mod_lt (md.TM n) h;omega
theorem Zx(n:Int):IntKind.u64.wrap n=((md.TM n:Nat):Int):=by
  have:0≤IntKind.u64.wrap n:=by
    simp only [IntKind.wrap,IntKind.bits,IntKind.signed,Bool.false_and,Bool.false_eq_true,if_false];omega
  unfold md.TM;omega
theorem cF(n:Int)(d:Nat):((md.TM n:Nat):Int).tmod (d:Int)=md n d:=by
  rw [Int.tmod_eq_emod_of_nonneg Ab];unfold md;omega
theorem ZY(n:Int){d:Nat}(h:0<d)(h2:d≤1000):IntKind.i64.wrap (md n d)=md n d:=by
  have:=eL n h;exact C8 Ab Ab
attribute [local irreducible] SL.T C7 Dc C6 Db DS Du
end Go.Proofs.YtcnmnmjmpocepaaGreatDoor.Cd
