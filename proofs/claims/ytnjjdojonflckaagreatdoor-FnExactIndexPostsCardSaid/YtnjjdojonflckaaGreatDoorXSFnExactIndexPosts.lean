/- What is left to prove of the law FnExactIndexPosts: over numbers, texts and lists alone; no condition but the kinds' own bounds. -/
import Derived.Test.YtnjjdojonflckaaGreatDoorXPFnExactIndexPostsx28
import Derived.Test.YtnjjdojonflckaaGreatDoorXOpens
namespace Go.Proofs.YtnjjdojonflckaaGreatDoor.PFnExactIndexPosts
open Go.RowKit Go.Proofs.YtnjjdojonflckaaGreatDoorW.PrintWords Go.Proofs.YtnjjdojonflckaaGreatDoorW.PrintLast Go.Proofs.YtnjjdojonflckaaGreatDoorW.PrintMore Go.Proofs.YtnjjdojonflckaaGreatDoor.Opens
def pM (y : d9) : Prop := (fun x => x.size ≤ maxLen) y.f0 ∧ (fun x => (Lit.int .i64 x).wf = true) y.f1 ∧ (fun x => (Lit.int .i64 x).wf = true) y.f2
def pB (y : dF) : Prop := (fun x => x.size ≤ maxLen) y.f0 ∧ (fun x => x.size ≤ maxLen) y.f1
def pK (y : oa) : Prop := (fun x => x.size ≤ maxLen) y.f0 ∧ (fun x => (x.length ≤ maxLen ∧ ∀ z ∈ x, pB z)) y.f1
def pW (y : dX) : Prop := (fun x => (Lit.int .i64 x).wf = true) y.f0 ∧ pK y.f1
def pU (y : dY) : Prop := (fun x => (Lit.int .i64 x).wf = true) y.f0 ∧ (fun x => (x.length ≤ maxLen ∧ ∀ z ∈ x, (fun x => (Lit.int .i64 x).wf = true) z)) y.f1
def pS (y : dZ) : Prop := (fun x => x.size ≤ maxLen) y.f0 ∧ (fun x => x.size ≤ maxLen) y.f1 ∧ (fun x => (x.length ≤ maxLen ∧ ∀ z ∈ x, pU z)) y.f2
def bC.PureX : Prop := ∀ (l0_0 : List d9) (l0_1 : List dX) (l0_2 : List dZ) (a0_3 : Int) (a1 : ByteArray) (a2 : ByteArray), (l0_0.length ≤ maxLen ∧ ∀ x ∈ l0_0, pM x) → (l0_1.length ≤ maxLen ∧ ∀ x ∈ l0_1, pW x) → (l0_2.length ≤ maxLen ∧ ∀ x ∈ l0_2, pS x) → (Lit.int .i64 a0_3).wf = true → a1.size ≤ maxLen → a2.size ≤ maxLen → ∃ k, bC.f k l0_0 l0_1 l0_2 a0_3 a1 a2 = some true
end Go.Proofs.YtnjjdojonflckaaGreatDoor.PFnExactIndexPosts
