/- What is left to prove of the law FnExactTermOk: over numbers, texts and lists alone; no condition but the kinds' own bounds. -/
import Derived.Test.YtifenfjjekpflaaDoorPFnExactTermOkx3
import Derived.Test.YtifenfjjekpflaaDoorOpens
namespace Go.Proofs.YtifenfjjekpflaaDoor.PFnExactTermOk
open Go.RowKit Go.Proofs.YtifenfjjekpflaaDoorW.PrintWords Go.Proofs.YtifenfjjekpflaaDoorW.PrintLast Go.Proofs.YtifenfjjekpflaaDoorW.PrintMore Go.Proofs.YtifenfjjekpflaaDoor.Opens
def laws_FnExactTermOk.PureX : Prop := ∀ (a0 : ByteArray), a0.size ≤ maxLen → ∃ k, laws_FnExactTermOk.f k a0 = some true
end Go.Proofs.YtifenfjjekpflaaDoor.PFnExactTermOk
