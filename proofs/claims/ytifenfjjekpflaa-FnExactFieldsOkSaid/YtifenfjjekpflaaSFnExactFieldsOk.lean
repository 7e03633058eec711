/- What is left to prove of the law FnExactFieldsOk: over numbers, texts and lists alone; no condition but the kinds' own bounds. -/
import Derived.Test.YtifenfjjekpflaaPFnExactFieldsOkx4
import Derived.Test.YtifenfjjekpflaaOpens
namespace Go.Proofs.Ytifenfjjekpflaa.PFnExactFieldsOk
open Go.RowKit Go.Proofs.YtifenfjjekpflaaW.PrintWords Go.Proofs.YtifenfjjekpflaaW.PrintLast Go.Proofs.YtifenfjjekpflaaW.PrintMore Go.Proofs.Ytifenfjjekpflaa.Opens
def good68 (y : S68) : Prop := (fun x => x.size ≤ maxLen) y.f0 ∧ (fun x => (Lit.int .i64 x).wf = true) y.f1 ∧ (fun x => (Lit.int .i64 x).wf = true) y.f2
def laws_FnExactFieldsOk.PureX : Prop := ∀ (l0 : List S68), (l0.length ≤ maxLen ∧ ∀ x ∈ l0, good68 x) → ∃ k, laws_FnExactFieldsOk.f k l0 = some true
end Go.Proofs.Ytifenfjjekpflaa.PFnExactFieldsOk
