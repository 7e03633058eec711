/- What is left to prove of the law FnExactIndexNew: over numbers, texts and lists alone; no condition but the kinds' own bounds. -/
import Derived.Test.YtglcgkbecfmegaaPFnExactIndexNewx6
import Derived.Test.YtglcgkbecfmegaaOpens
namespace Go.Proofs.Ytglcgkbecfmegaa.PFnExactIndexNew
open Go.RowKit Go.Proofs.YtglcgkbecfmegaaW.PrintWords Go.Proofs.YtglcgkbecfmegaaW.PrintLast Go.Proofs.YtglcgkbecfmegaaW.PrintMore Go.Proofs.Ytglcgkbecfmegaa.Opens
def good52 (y : S52) : Prop := (fun x => x.size ≤ maxLen) y.f0 ∧ (fun x => (Lit.int .i64 x).wf = true) y.f1 ∧ (fun x => (Lit.int .i64 x).wf = true) y.f2
def laws_FnExactIndexNew.PureX : Prop := ∀ (l0 : List S52), (l0.length ≤ maxLen ∧ ∀ x ∈ l0, good52 x) → ∃ k, laws_FnExactIndexNew.f k l0 = some true
end Go.Proofs.Ytglcgkbecfmegaa.PFnExactIndexNew
