/- What is left to prove of the law FnWordsTwo: over numbers, texts and lists alone; no condition but the kinds' own bounds. -/
import Derived.Test.YtifenfjjekpflaaDoorPFnWordsTwox5
import Derived.Test.YtifenfjjekpflaaDoorOpens
namespace Go.Proofs.YtifenfjjekpflaaDoor.PFnWordsTwo
open Go.RowKit Go.Proofs.YtifenfjjekpflaaDoorW.PrintWords Go.Proofs.YtifenfjjekpflaaDoorW.PrintLast Go.Proofs.YtifenfjjekpflaaDoorW.PrintMore Go.Proofs.YtifenfjjekpflaaDoor.Opens
def laws_FnWordsTwo.PureX : Prop := ∀ (l0 : List Int) (l1 : List Int), (l0.length ≤ maxLen ∧ ∀ x ∈ l0, (fun x => (Lit.int .u8 x).wf = true) x) → (l1.length ≤ maxLen ∧ ∀ x ∈ l1, (fun x => (Lit.int .u8 x).wf = true) x) → ∃ k, laws_FnWordsTwo.f k l0 l1 = some true
end Go.Proofs.YtifenfjjekpflaaDoor.PFnWordsTwo
