/- What is left to prove of the law FnExactDocPut: over numbers, texts and lists alone; no condition but the kinds' own bounds. -/
import Derived.Test.YtifenfjjekpflaaPFnExactDocPutx5
import Derived.Test.YtifenfjjekpflaaOpens
namespace Go.Proofs.Ytifenfjjekpflaa.PFnExactDocPut
open Go.RowKit Go.Proofs.YtifenfjjekpflaaW.PrintWords Go.Proofs.YtifenfjjekpflaaW.PrintLast Go.Proofs.YtifenfjjekpflaaW.PrintMore Go.Proofs.Ytifenfjjekpflaa.Opens
def good88 (y : S88) : Prop := (fun x => x.size ≤ maxLen) y.f0 ∧ (fun x => x.size ≤ maxLen) y.f1
def laws_FnExactDocPut.PureX : Prop := ∀ (a0_0 : ByteArray) (l0_1 : List S88), a0_0.size ≤ maxLen → (l0_1.length ≤ maxLen ∧ ∀ x ∈ l0_1, good88 x) → ∃ k, laws_FnExactDocPut.f k a0_0 l0_1 = some true
end Go.Proofs.Ytifenfjjekpflaa.PFnExactDocPut
