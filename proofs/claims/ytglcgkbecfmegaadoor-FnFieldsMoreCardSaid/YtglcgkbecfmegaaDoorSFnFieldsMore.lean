/- What is left to prove of the law FnFieldsMore: over numbers, texts and lists alone; no condition but the kinds' own bounds. -/
import Derived.Test.YtglcgkbecfmegaaDoorPFnFieldsMorex5
import Derived.Test.YtglcgkbecfmegaaDoorOpens
namespace Go.Proofs.YtglcgkbecfmegaaDoor.PFnFieldsMore
open Go.RowKit Go.Proofs.YtglcgkbecfmegaaDoorW.PrintWords Go.Proofs.YtglcgkbecfmegaaDoorW.PrintLast Go.Proofs.YtglcgkbecfmegaaDoorW.PrintMore Go.Proofs.YtglcgkbecfmegaaDoor.Opens
def laws_FnFieldsMore.PureX : Prop := ∀ (l0 : List Int), (l0.length ≤ maxLen ∧ ∀ x ∈ l0, (fun x => (Lit.int .u8 x).wf = true) x) → ∃ k, laws_FnFieldsMore.f k l0 = some true
end Go.Proofs.YtglcgkbecfmegaaDoor.PFnFieldsMore
