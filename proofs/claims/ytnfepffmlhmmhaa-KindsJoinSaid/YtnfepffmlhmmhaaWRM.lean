/- What calls come to. -/
import Derived.Test.YtnfepffmlhmmhaaWRT
namespace Go.Proofs.Ytnfepffmlhmmhaa
open Go Go.SL
end Go.Proofs.Ytnfepffmlhmmhaa
