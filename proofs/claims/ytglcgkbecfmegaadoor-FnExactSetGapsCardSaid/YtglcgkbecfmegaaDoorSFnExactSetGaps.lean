/- What is left to prove of the law FnExactSetGaps: over numbers, texts and lists alone; no condition but the kinds' own bounds. -/
import Derived.Test.YtglcgkbecfmegaaDoorPFnExactSetGapsx2
import Derived.Test.YtglcgkbecfmegaaDoorOpens
namespace Go.Proofs.YtglcgkbecfmegaaDoor.PFnExactSetGaps
open Go.RowKit Go.Proofs.YtglcgkbecfmegaaDoorW.PrintWords Go.Proofs.YtglcgkbecfmegaaDoorW.PrintLast Go.Proofs.YtglcgkbecfmegaaDoorW.PrintMore Go.Proofs.YtglcgkbecfmegaaDoor.Opens
def laws_FnExactSetGaps.PureX : Prop := ∀ (l0 : List Int), (l0.length ≤ maxLen ∧ ∀ x ∈ l0, (fun x => (Lit.int .i64 x).wf = true) x) → ∃ k, laws_FnExactSetGaps.f k l0 = some true
end Go.Proofs.YtglcgkbecfmegaaDoor.PFnExactSetGaps
