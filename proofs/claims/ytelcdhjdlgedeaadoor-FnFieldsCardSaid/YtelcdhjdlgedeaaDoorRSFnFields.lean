/- What is left to prove of the law FnFields: over numbers, texts and lists alone; no condition but the kinds' own bounds. -/
import Derived.Test.YtelcdhjdlgedeaaDoorRPFnFieldsx9
import Derived.Test.YtelcdhjdlgedeaaDoorROpens
namespace Go.Proofs.YtelcdhjdlgedeaaDoor.PFnFields
open Go.RowKit Go.Proofs.YtelcdhjdlgedeaaDoorW.PrintWords Go.Proofs.YtelcdhjdlgedeaaDoorW.PrintLast Go.Proofs.YtelcdhjdlgedeaaDoorW.PrintMore Go.Proofs.YtelcdhjdlgedeaaDoor.Opens
def laws_FnFields.PureX : Prop := ∀ (l0 : List Int) (l1 : List Int), (l0.length ≤ maxLen ∧ ∀ x ∈ l0, (fun x => (Lit.int .u8 x).wf = true) x) → (l1.length ≤ maxLen ∧ ∀ x ∈ l1, (fun x => (Lit.int .u8 x).wf = true) x) → ∃ k, laws_FnFields.f k l0 l1 = some true
end Go.Proofs.YtelcdhjdlgedeaaDoor.PFnFields
