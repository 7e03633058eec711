/- What is left to prove of the law FnExactFieldsPut: over numbers, texts and lists alone; no condition but the kinds' own bounds. -/
import Derived.Test.YtglcgkbecfmegaaDoorPFnExactFieldsPutx5
import Derived.Test.YtglcgkbecfmegaaDoorOpens
namespace Go.Proofs.YtglcgkbecfmegaaDoor.PFnExactFieldsPut
open Go.RowKit Go.Proofs.YtglcgkbecfmegaaDoorW.PrintWords Go.Proofs.YtglcgkbecfmegaaDoorW.PrintLast Go.Proofs.YtglcgkbecfmegaaDoorW.PrintMore Go.Proofs.YtglcgkbecfmegaaDoor.Opens
def good82 (y : S82) : Prop := (fun x => x.size ≤ maxLen) y.f0 ∧ (fun x => (Lit.int .i64 x).wf = true) y.f1 ∧ (fun x => (Lit.int .i64 x).wf = true) y.f2
def laws_FnExactFieldsPut.PureX : Prop := ∀ (l0 : List S82), (l0.length ≤ maxLen ∧ ∀ x ∈ l0, good82 x) → ∃ k, laws_FnExactFieldsPut.f k l0 = some true
end Go.Proofs.YtglcgkbecfmegaaDoor.PFnExactFieldsPut
