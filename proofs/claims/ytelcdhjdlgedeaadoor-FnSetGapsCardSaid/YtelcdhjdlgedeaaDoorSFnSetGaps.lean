/- What is left to prove of the law FnSetGaps: over numbers, texts and lists alone; no condition but the kinds' own bounds. -/
import Derived.Test.YtelcdhjdlgedeaaDoorPFnSetGapsx6
import Derived.Test.YtelcdhjdlgedeaaDoorOpens
namespace Go.Proofs.YtelcdhjdlgedeaaDoor.PFnSetGaps
open Go.RowKit Go.Proofs.YtelcdhjdlgedeaaDoorW.PrintWords Go.Proofs.YtelcdhjdlgedeaaDoorW.PrintLast Go.Proofs.YtelcdhjdlgedeaaDoorW.PrintMore Go.Proofs.YtelcdhjdlgedeaaDoor.Opens
def laws_FnSetGaps.PureX : Prop := ∀ (l0 : List Int) (l1 : List Int), (l0.length ≤ maxLen ∧ ∀ x ∈ l0, (fun x => (Lit.int .u8 x).wf = true) x) → (l1.length ≤ maxLen ∧ ∀ x ∈ l1, (fun x => (Lit.int .u8 x).wf = true) x) → ∃ k, laws_FnSetGaps.f k l0 l1 = some true
end Go.Proofs.YtelcdhjdlgedeaaDoor.PFnSetGaps
