/- What is left to prove of the law FnExactTerms: over numbers, texts and lists alone; no condition but the kinds' own bounds. -/
import Derived.Test.YtifenfjjekpflaaDoorPFnExactTermsx4
import Derived.Test.YtifenfjjekpflaaDoorOpens
namespace Go.Proofs.YtifenfjjekpflaaDoor.PFnExactTerms
open Go.RowKit Go.Proofs.YtifenfjjekpflaaDoorW.PrintWords Go.Proofs.YtifenfjjekpflaaDoorW.PrintLast Go.Proofs.YtifenfjjekpflaaDoorW.PrintMore Go.Proofs.YtifenfjjekpflaaDoor.Opens
def laws_FnExactTerms.PureX : Prop := ∀ (a0 : ByteArray), a0.size ≤ maxLen → ∃ k, laws_FnExactTerms.f k a0 = some true
end Go.Proofs.YtifenfjjekpflaaDoor.PFnExactTerms
