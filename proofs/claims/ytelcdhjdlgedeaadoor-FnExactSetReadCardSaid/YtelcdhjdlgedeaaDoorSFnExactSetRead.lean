/- What is left to prove of the law FnExactSetRead: over numbers, texts and lists alone; no condition but the kinds' own bounds. -/
import Derived.Test.YtelcdhjdlgedeaaDoorPFnExactSetReadx4
import Derived.Test.YtelcdhjdlgedeaaDoorOpens
namespace Go.Proofs.YtelcdhjdlgedeaaDoor.PFnExactSetRead
open Go.RowKit Go.Proofs.YtelcdhjdlgedeaaDoorW.PrintWords Go.Proofs.YtelcdhjdlgedeaaDoorW.PrintLast Go.Proofs.YtelcdhjdlgedeaaDoorW.PrintMore Go.Proofs.YtelcdhjdlgedeaaDoor.Opens
def laws_FnExactSetRead.PureX : Prop := ∀ (a0 : ByteArray), a0.size ≤ maxLen → ∃ k, laws_FnExactSetRead.f k a0 = some true
end Go.Proofs.YtelcdhjdlgedeaaDoor.PFnExactSetRead
