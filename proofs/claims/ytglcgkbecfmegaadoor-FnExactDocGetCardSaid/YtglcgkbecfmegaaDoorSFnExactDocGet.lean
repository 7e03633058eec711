/- What is left to prove of the law FnExactDocGet: over numbers, texts and lists alone; no condition but the kinds' own bounds. -/
import Derived.Test.YtglcgkbecfmegaaDoorPFnExactDocGetx7
import Derived.Test.YtglcgkbecfmegaaDoorOpens
namespace Go.Proofs.YtglcgkbecfmegaaDoor.PFnExactDocGet
open Go.RowKit Go.Proofs.YtglcgkbecfmegaaDoorW.PrintWords Go.Proofs.YtglcgkbecfmegaaDoorW.PrintLast Go.Proofs.YtglcgkbecfmegaaDoorW.PrintMore Go.Proofs.YtglcgkbecfmegaaDoor.Opens
def laws_FnExactDocGet.PureX : Prop := ∀ (a0 : ByteArray), a0.size ≤ maxLen → ∃ k, laws_FnExactDocGet.f k a0 = some true
end Go.Proofs.YtglcgkbecfmegaaDoor.PFnExactDocGet
