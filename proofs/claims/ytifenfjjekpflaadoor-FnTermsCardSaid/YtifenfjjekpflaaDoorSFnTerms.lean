/- What is left to prove of the law FnTerms: over numbers, texts and lists alone; no condition but the kinds' own bounds. -/
import Derived.Test.YtifenfjjekpflaaDoorPFnTermsx5
import Derived.Test.YtifenfjjekpflaaDoorOpens
namespace Go.Proofs.YtifenfjjekpflaaDoor.PFnTerms
open Go.RowKit Go.Proofs.YtifenfjjekpflaaDoorW.PrintWords Go.Proofs.YtifenfjjekpflaaDoorW.PrintLast Go.Proofs.YtifenfjjekpflaaDoorW.PrintMore Go.Proofs.YtifenfjjekpflaaDoor.Opens
def laws_FnTerms.PureX : Prop := ∀ (l0 : List Int), (l0.length ≤ maxLen ∧ ∀ x ∈ l0, (fun x => (Lit.int .u8 x).wf = true) x) → ∃ k, laws_FnTerms.f k l0 = some true
end Go.Proofs.YtifenfjjekpflaaDoor.PFnTerms
