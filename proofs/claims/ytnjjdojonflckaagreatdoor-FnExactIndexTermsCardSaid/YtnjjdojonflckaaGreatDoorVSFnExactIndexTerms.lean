/- What is left to prove of the law FnExactIndexTerms: over numbers, texts and lists alone; no condition but the kinds' own bounds. -/
import Derived.Test.YtnjjdojonflckaaGreatDoorVPFnExactIndexTermsx28
import Derived.Test.YtnjjdojonflckaaGreatDoorVOpens
namespace Go.Proofs.YtnjjdojonflckaaGreatDoor.PFnExactIndexTerms
open Go.RowKit Go.Proofs.YtnjjdojonflckaaGreatDoorW.PrintWords Go.Proofs.YtnjjdojonflckaaGreatDoorW.PrintLast Go.Proofs.YtnjjdojonflckaaGreatDoorW.PrintMore Go.Proofs.YtnjjdojonflckaaGreatDoor.Opens
def pJ (y : d8) : Prop := (fun x => x.size ≤ maxLen) y.f0 ∧ (fun x => (Lit.int .i64 x).wf = true) y.f1 ∧ (fun x => (Lit.int .i64 x).wf = true) y.f2
def pp (y : dE) : Prop := (fun x => x.size ≤ maxLen) y.f0 ∧ (fun x => x.size ≤ maxLen) y.f1
def pw (y : oo) : Prop := (fun x => x.size ≤ maxLen) y.f0 ∧ (fun x => (x.length ≤ maxLen ∧ ∀ z ∈ x, pp z)) y.f1
def pI (y : dW) : Prop := (fun x => (Lit.int .i64 x).wf = true) y.f0 ∧ pw y.f1
def pB (y : dX) : Prop := (fun x => (Lit.int .i64 x).wf = true) y.f0 ∧ (fun x => (x.length ≤ maxLen ∧ ∀ z ∈ x, (fun x => (Lit.int .i64 x).wf = true) z)) y.f1
def pc (y : dV) : Prop := (fun x => x.size ≤ maxLen) y.f0 ∧ (fun x => x.size ≤ maxLen) y.f1 ∧ (fun x => (x.length ≤ maxLen ∧ ∀ z ∈ x, pB z)) y.f2
def bD.PureX : Prop := ∀ (l0_0 : List d8) (l0_1 : List dW) (l0_2 : List dV) (a0_3 : Int) (a1 : ByteArray) (a2 : ByteArray), (l0_0.length ≤ maxLen ∧ ∀ x ∈ l0_0, pJ x) → (l0_1.length ≤ maxLen ∧ ∀ x ∈ l0_1, pI x) → (l0_2.length ≤ maxLen ∧ ∀ x ∈ l0_2, pc x) → (Lit.int .i64 a0_3).wf = true → a1.size ≤ maxLen → a2.size ≤ maxLen → ∃ k, bD.f k l0_0 l0_1 l0_2 a0_3 a1 a2 = some true
end Go.Proofs.YtnjjdojonflckaaGreatDoor.PFnExactIndexTerms
