/- What is left to prove of the law FnExactFieldsGet: over numbers, texts and lists alone; no condition but the kinds' own bounds. -/
import Derived.Test.YtelcdhjdlgedeaaDoorPFnExactFieldsGetx9
import Derived.Test.YtelcdhjdlgedeaaDoorOpens
namespace Go.Proofs.YtelcdhjdlgedeaaDoor.PFnExactFieldsGet
open Go.RowKit Go.Proofs.YtelcdhjdlgedeaaDoorW.PrintWords Go.Proofs.YtelcdhjdlgedeaaDoorW.PrintLast Go.Proofs.YtelcdhjdlgedeaaDoorW.PrintMore Go.Proofs.YtelcdhjdlgedeaaDoor.Opens
def laws_FnExactFieldsGet.PureX : Prop := ∀ (a0 : ByteArray), a0.size ≤ maxLen → ∃ k, laws_FnExactFieldsGet.f k a0 = some true
end Go.Proofs.YtelcdhjdlgedeaaDoor.PFnExactFieldsGet
