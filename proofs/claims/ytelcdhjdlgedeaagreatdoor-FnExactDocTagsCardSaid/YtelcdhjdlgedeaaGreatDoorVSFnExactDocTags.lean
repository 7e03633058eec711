/- What is left to prove of the law FnExactDocTags: over numbers, texts and lists alone; no condition but the kinds' own bounds. -/
import Derived.Test.YtelcdhjdlgedeaaGreatDoorVPFnExactDocTagsx13
import Derived.Test.YtelcdhjdlgedeaaGreatDoorVOpens
namespace Go.Proofs.YtelcdhjdlgedeaaGreatDoor.PFnExactDocTags
open Go.RowKit Go.Proofs.YtelcdhjdlgedeaaGreatDoorW.PrintWords Go.Proofs.YtelcdhjdlgedeaaGreatDoorW.PrintLast Go.Proofs.YtelcdhjdlgedeaaGreatDoorW.PrintMore Go.Proofs.YtelcdhjdlgedeaaGreatDoor.Opens
def good72 (y : S72) : Prop := (fun x => x.size ≤ maxLen) y.f0 ∧ (fun x => (Lit.int .i64 x).wf = true) y.f1 ∧ (fun x => (Lit.int .i64 x).wf = true) y.f2
def good117 (y : S117) : Prop := (fun x => x.size ≤ maxLen) y.f0 ∧ (fun x => x.size ≤ maxLen) y.f1
def laws_FnExactDocTags.PureX : Prop := ∀ (l0 : List S72) (a1_0 : ByteArray) (l1_1 : List S117) (a2 : ByteArray), (l0.length ≤ maxLen ∧ ∀ x ∈ l0, good72 x) → a1_0.size ≤ maxLen → (l1_1.length ≤ maxLen ∧ ∀ x ∈ l1_1, good117 x) → a2.size ≤ maxLen → ∃ k, laws_FnExactDocTags.f k l0 a1_0 l1_1 a2 = some true
end Go.Proofs.YtelcdhjdlgedeaaGreatDoor.PFnExactDocTags
