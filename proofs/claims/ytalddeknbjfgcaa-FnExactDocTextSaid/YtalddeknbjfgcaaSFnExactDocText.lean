/- What is left to prove of the law FnExactDocText: over numbers, texts and lists alone; no condition but the kinds' own bounds. -/
import Derived.Test.YtalddeknbjfgcaaPFnExactDocTextx3
import Derived.Test.YtalddeknbjfgcaaOpens
namespace Go.Proofs.Ytalddeknbjfgcaa.PFnExactDocText
open Go.RowKit Go.Proofs.YtalddeknbjfgcaaW.PrintWords Go.Proofs.YtalddeknbjfgcaaW.PrintLast Go.Proofs.YtalddeknbjfgcaaW.PrintMore Go.Proofs.Ytalddeknbjfgcaa.Opens
def good75 (y : S75) : Prop := (fun x => x.size ≤ maxLen) y.f0 ∧ (fun x => x.size ≤ maxLen) y.f1
def laws_FnExactDocText.PureX : Prop := ∀ (a0_0 : ByteArray) (l0_1 : List S75) (a1 : ByteArray), a0_0.size ≤ maxLen → (l0_1.length ≤ maxLen ∧ ∀ x ∈ l0_1, good75 x) → a1.size ≤ maxLen → ∃ k, laws_FnExactDocText.f k a0_0 l0_1 a1 = some true
end Go.Proofs.Ytalddeknbjfgcaa.PFnExactDocText
