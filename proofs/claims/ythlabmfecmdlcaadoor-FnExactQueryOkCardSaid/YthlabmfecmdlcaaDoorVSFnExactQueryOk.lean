/- What is left to prove of the law FnExactQueryOk: over numbers, texts and lists alone; no condition but the kinds' own bounds. -/
import Derived.Test.YthlabmfecmdlcaaDoorVPFnExactQueryOkx10
import Derived.Test.YthlabmfecmdlcaaDoorVOpens
namespace Go.Proofs.YthlabmfecmdlcaaDoor.PFnExactQueryOk
open Go.RowKit Go.Proofs.YthlabmfecmdlcaaDoorW.PrintWords Go.Proofs.YthlabmfecmdlcaaDoorW.PrintLast Go.Proofs.YthlabmfecmdlcaaDoorW.PrintMore Go.Proofs.YthlabmfecmdlcaaDoor.Opens
inductive good24 : S24 → Prop
  | mk (y : S24) : (Lit.int .i64 y.f0).wf = true → y.f1.size ≤ maxLen → y.f2.size ≤ maxLen → (Lit.int .i64 y.f3).wf = true → (Lit.int .i64 y.f4).wf = true → y.f5.length ≤ maxLen → (∀ x ∈ y.f5, good24 x) → good24 y
def laws_FnExactQueryOk.PureX : Prop := ∀ (a0_0 : Int) (a0_1 : ByteArray) (a0_2 : ByteArray) (a0_3 : Int) (a0_4 : Int) (l0_5 : List S24), (Lit.int .i64 a0_0).wf = true → a0_1.size ≤ maxLen → a0_2.size ≤ maxLen → (Lit.int .i64 a0_3).wf = true → (Lit.int .i64 a0_4).wf = true → (l0_5.length ≤ maxLen ∧ ∀ x ∈ l0_5, good24 x) → ∃ k, laws_FnExactQueryOk.f k a0_0 a0_1 a0_2 a0_3 a0_4 l0_5 = some true
end Go.Proofs.YthlabmfecmdlcaaDoor.PFnExactQueryOk
