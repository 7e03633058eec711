/- What is left to prove of the law FnExactIndexDoc: over numbers, texts and lists alone; no condition but the kinds' own bounds. -/
import Derived.Test.YtnjjdojonflckaaGreatDoorUPFnExactIndexDocx29
import Derived.Test.YtnjjdojonflckaaGreatDoorUOpens
namespace Go.Proofs.YtnjjdojonflckaaGreatDoor.PFnExactIndexDoc
open Go.RowKit Go.Proofs.YtnjjdojonflckaaGreatDoorW.PrintWords Go.Proofs.YtnjjdojonflckaaGreatDoorW.PrintLast Go.Proofs.YtnjjdojonflckaaGreatDoorW.PrintMore Go.Proofs.YtnjjdojonflckaaGreatDoor.Opens
def oX (y : dU) : Prop := (fun x => x.size ≤ maxLen) y.f0 ∧ (fun x => (Lit.int .i64 x).wf = true) y.f1 ∧ (fun x => (Lit.int .i64 x).wf = true) y.f2
def pr (y : dY) : Prop := (fun x => x.size ≤ maxLen) y.f0 ∧ (fun x => x.size ≤ maxLen) y.f1
def oZ (y : nE) : Prop := (fun x => x.size ≤ maxLen) y.f0 ∧ (fun x => (x.length ≤ maxLen ∧ ∀ z ∈ x, pr z)) y.f1
def pe (y : dS) : Prop := (fun x => (Lit.int .i64 x).wf = true) y.f0 ∧ oZ y.f1
def o4 (y : eC) : Prop := (fun x => (Lit.int .i64 x).wf = true) y.f0 ∧ (fun x => (x.length ≤ maxLen ∧ ∀ z ∈ x, (fun x => (Lit.int .i64 x).wf = true) z)) y.f1
def pw (y : dQ) : Prop := (fun x => x.size ≤ maxLen) y.f0 ∧ (fun x => x.size ≤ maxLen) y.f1 ∧ (fun x => (x.length ≤ maxLen ∧ ∀ z ∈ x, o4 z)) y.f2
def ai.PureX : Prop := ∀ (l0_0 : List dU) (l0_1 : List dS) (l0_2 : List dQ) (a0_3 : Int) (a1 : ByteArray), (l0_0.length ≤ maxLen ∧ ∀ x ∈ l0_0, oX x) → (l0_1.length ≤ maxLen ∧ ∀ x ∈ l0_1, pe x) → (l0_2.length ≤ maxLen ∧ ∀ x ∈ l0_2, pw x) → (Lit.int .i64 a0_3).wf = true → a1.size ≤ maxLen → ∃ k, ai.f k l0_0 l0_1 l0_2 a0_3 a1 = some true
end Go.Proofs.YtnjjdojonflckaaGreatDoor.PFnExactIndexDoc
