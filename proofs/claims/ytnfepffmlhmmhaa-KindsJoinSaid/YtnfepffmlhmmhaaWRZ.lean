/- A closed call, run by the kernel. -/
import Derived.Test.YtnfepffmlhmmhaaWRO
import Derived.Test.YtnfepffmlhmmhaaWRKF
namespace Go.Proofs.Ytnfepffmlhmmhaa
open Go Go.SL
theorem run6 : PFn Try.prog 6 [] [] (.bool true) := closed_true tb_ok (memosOk_nil) kf6
end Go.Proofs.Ytnfepffmlhmmhaa
