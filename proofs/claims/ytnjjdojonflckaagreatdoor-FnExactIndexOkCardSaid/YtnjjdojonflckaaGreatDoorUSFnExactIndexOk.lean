/- What is left to prove of the law FnExactIndexOk: over numbers, texts and lists alone; no condition but the kinds' own bounds. -/
import Derived.Test.YtnjjdojonflckaaGreatDoorUPFnExactIndexOkx24
import Derived.Test.YtnjjdojonflckaaGreatDoorUOpens
namespace Go.Proofs.YtnjjdojonflckaaGreatDoor.PFnExactIndexOk
open Go.RowKit Go.Proofs.YtnjjdojonflckaaGreatDoorW.PrintWords Go.Proofs.YtnjjdojonflckaaGreatDoorW.PrintLast Go.Proofs.YtnjjdojonflckaaGreatDoorW.PrintMore Go.Proofs.YtnjjdojonflckaaGreatDoor.Opens
def o7 (y : dU) : Prop := (fun x => x.size ≤ maxLen) y.f0 ∧ (fun x => (Lit.int .i64 x).wf = true) y.f1 ∧ (fun x => (Lit.int .i64 x).wf = true) y.f2
def o3 (y : dE) : Prop := (fun x => x.size ≤ maxLen) y.f0 ∧ (fun x => x.size ≤ maxLen) y.f1
def pf (y : gO) : Prop := (fun x => x.size ≤ maxLen) y.f0 ∧ (fun x => (x.length ≤ maxLen ∧ ∀ z ∈ x, o3 z)) y.f1
def pe (y : dS) : Prop := (fun x => (Lit.int .i64 x).wf = true) y.f0 ∧ pf y.f1
def oV (y : dR) : Prop := (fun x => (Lit.int .i64 x).wf = true) y.f0 ∧ (fun x => (x.length ≤ maxLen ∧ ∀ z ∈ x, (fun x => (Lit.int .i64 x).wf = true) z)) y.f1
def oW (y : dQ) : Prop := (fun x => x.size ≤ maxLen) y.f0 ∧ (fun x => x.size ≤ maxLen) y.f1 ∧ (fun x => (x.length ≤ maxLen ∧ ∀ z ∈ x, oV z)) y.f2
def bM.PureX : Prop := ∀ (l0_0 : List dU) (l0_1 : List dS) (l0_2 : List dQ) (a0_3 : Int), (l0_0.length ≤ maxLen ∧ ∀ x ∈ l0_0, o7 x) → (l0_1.length ≤ maxLen ∧ ∀ x ∈ l0_1, pe x) → (l0_2.length ≤ maxLen ∧ ∀ x ∈ l0_2, oW x) → (Lit.int .i64 a0_3).wf = true → ∃ k, bM.f k l0_0 l0_1 l0_2 a0_3 = some true
end Go.Proofs.YtnjjdojonflckaaGreatDoor.PFnExactIndexOk
