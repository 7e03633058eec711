/- What is left to prove of the law FnIndexTerms: over numbers, texts and lists alone; no condition but the kinds' own bounds. -/
import Derived.Test.YtnjjdojonflckaaGreatDoorYPFnIndexTermsx30
import Derived.Test.YtnjjdojonflckaaGreatDoorYOpens
namespace Go.Proofs.YtnjjdojonflckaaGreatDoor.PFnIndexTerms
open Go.RowKit Go.Proofs.YtnjjdojonflckaaGreatDoorW.PrintWords Go.Proofs.YtnjjdojonflckaaGreatDoorW.PrintLast Go.Proofs.YtnjjdojonflckaaGreatDoorW.PrintMore Go.Proofs.YtnjjdojonflckaaGreatDoor.Opens
def ab.PureX:Prop:=∀(l0:List Int),(l0.length≤maxLen∧∀x∈l0,(fun x=>(Lit.int .u8 x).wf=true) x)→∃k,ab.f k l0=some true
end Go.Proofs.YtnjjdojonflckaaGreatDoor.PFnIndexTerms
