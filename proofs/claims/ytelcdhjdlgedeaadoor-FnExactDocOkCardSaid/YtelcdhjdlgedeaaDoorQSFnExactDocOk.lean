/- What is left to prove of the law FnExactDocOk: over numbers, texts and lists alone; no condition but the kinds' own bounds. -/
import Derived.Test.YtelcdhjdlgedeaaDoorQPFnExactDocOkx12
import Derived.Test.YtelcdhjdlgedeaaDoorQOpens
namespace Go.Proofs.YtelcdhjdlgedeaaDoor.PFnExactDocOk
open Go.RowKit Go.Proofs.YtelcdhjdlgedeaaDoorW.PrintWords Go.Proofs.YtelcdhjdlgedeaaDoorW.PrintLast Go.Proofs.YtelcdhjdlgedeaaDoorW.PrintMore Go.Proofs.YtelcdhjdlgedeaaDoor.Opens
def good90 (y : S90) : Prop := (fun x => x.size ≤ maxLen) y.f0 ∧ (fun x => (Lit.int .i64 x).wf = true) y.f1 ∧ (fun x => (Lit.int .i64 x).wf = true) y.f2
def good114 (y : S114) : Prop := (fun x => x.size ≤ maxLen) y.f0 ∧ (fun x => x.size ≤ maxLen) y.f1
def laws_FnExactDocOk.PureX : Prop := ∀ (l0 : List S90) (a1_0 : ByteArray) (l1_1 : List S114), (l0.length ≤ maxLen ∧ ∀ x ∈ l0, good90 x) → a1_0.size ≤ maxLen → (l1_1.length ≤ maxLen ∧ ∀ x ∈ l1_1, good114 x) → ∃ k, laws_FnExactDocOk.f k l0 a1_0 l1_1 = some true
end Go.Proofs.YtelcdhjdlgedeaaDoor.PFnExactDocOk
