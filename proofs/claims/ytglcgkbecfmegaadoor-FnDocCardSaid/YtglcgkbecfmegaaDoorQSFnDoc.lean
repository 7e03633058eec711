/- What is left to prove of the law FnDoc: over numbers, texts and lists alone; no condition but the kinds' own bounds. -/
import Derived.Test.YtglcgkbecfmegaaDoorQPFnDocx11
import Derived.Test.YtglcgkbecfmegaaDoorQOpens
namespace Go.Proofs.YtglcgkbecfmegaaDoor.PFnDoc
open Go.RowKit Go.Proofs.YtglcgkbecfmegaaDoorW.PrintWords Go.Proofs.YtglcgkbecfmegaaDoorW.PrintLast Go.Proofs.YtglcgkbecfmegaaDoorW.PrintMore Go.Proofs.YtglcgkbecfmegaaDoor.Opens
def laws_FnDoc.PureX : Prop := ∀ (l0 : List Int) (l1 : List Int), (l0.length ≤ maxLen ∧ ∀ x ∈ l0, (fun x => (Lit.int .u8 x).wf = true) x) → (l1.length ≤ maxLen ∧ ∀ x ∈ l1, (fun x => (Lit.int .u8 x).wf = true) x) → ∃ k, laws_FnDoc.f k l0 l1 = some true
end Go.Proofs.YtglcgkbecfmegaaDoor.PFnDoc
