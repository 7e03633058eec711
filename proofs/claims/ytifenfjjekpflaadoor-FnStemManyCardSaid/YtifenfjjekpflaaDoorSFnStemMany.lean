/- What is left to prove of the law FnStemMany: over numbers, texts and lists alone; no condition but the kinds' own bounds. -/
import Derived.Test.YtifenfjjekpflaaDoorPFnStemManyx3
import Derived.Test.YtifenfjjekpflaaDoorOpens
namespace Go.Proofs.YtifenfjjekpflaaDoor.PFnStemMany
open Go.RowKit Go.Proofs.YtifenfjjekpflaaDoorW.PrintWords Go.Proofs.YtifenfjjekpflaaDoorW.PrintLast Go.Proofs.YtifenfjjekpflaaDoorW.PrintMore Go.Proofs.YtifenfjjekpflaaDoor.Opens
def laws_FnStemMany.PureX : Prop := ∀ (l0 : List Int), (l0.length ≤ maxLen ∧ ∀ x ∈ l0, (fun x => (Lit.int .u8 x).wf = true) x) → ∃ k, laws_FnStemMany.f k l0 = some true
end Go.Proofs.YtifenfjjekpflaaDoor.PFnStemMany
