/- What is left to prove of the law FnIndexNew: over numbers, texts and lists alone; no condition but the kinds' own bounds. -/
import Derived.Test.YtelcdhjdlgedeaaGreatDoorVPFnIndexNewx9
import Derived.Test.YtelcdhjdlgedeaaGreatDoorVOpens
namespace Go.Proofs.YtelcdhjdlgedeaaGreatDoor.PFnIndexNew
open Go.RowKit Go.Proofs.YtelcdhjdlgedeaaGreatDoorW.PrintWords Go.Proofs.YtelcdhjdlgedeaaGreatDoorW.PrintLast Go.Proofs.YtelcdhjdlgedeaaGreatDoorW.PrintMore Go.Proofs.YtelcdhjdlgedeaaGreatDoor.Opens
def laws_FnIndexNew.PureX : Prop := ∀ (l0 : List Int), (l0.length ≤ maxLen ∧ ∀ x ∈ l0, (fun x => (Lit.int .u8 x).wf = true) x) → ∃ k, laws_FnIndexNew.f k l0 = some true
end Go.Proofs.YtelcdhjdlgedeaaGreatDoor.PFnIndexNew
