/- What is left to prove of the law FnIndexPosts: over numbers, texts and lists alone; no condition but the kinds' own bounds. -/
import Derived.Test.YtnjjdojonflckaaGreatDoorKPFnIndexPostsx30
import Derived.Test.YtnjjdojonflckaaGreatDoorKOpens
namespace Go.Proofs.YtnjjdojonflckaaGreatDoor.PFnIndexPosts
open Go.RowKit Go.Proofs.YtnjjdojonflckaaGreatDoorW.PrintWords Go.Proofs.YtnjjdojonflckaaGreatDoorW.PrintLast Go.Proofs.YtnjjdojonflckaaGreatDoorW.PrintMore Go.Proofs.YtnjjdojonflckaaGreatDoor.Opens
def ai.PureX:Prop:=∀(l0:List Int),(l0.length≤maxLen∧∀x∈l0,(fun x=>(Lit.int .u8 x).wf=true) x)→∃k,ai.f k l0=some true
end Go.Proofs.YtnjjdojonflckaaGreatDoor.PFnIndexPosts
