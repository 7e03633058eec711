/- Words that a program of the kit printed; those that this claim does not name are left out. -/
import Derived.Test.YtnjjdojonflckaaGreatDoorKWInv
import Derived.Test.YtnjjdojonflckaaGreatDoorKWFootNe
namespace Go.Proofs.YtnjjdojonflckaaGreatDoorW.PrintWords
open Go.RowKit
end Go.Proofs.YtnjjdojonflckaaGreatDoorW.PrintWords
namespace Go.Proofs.YtnjjdojonflckaaGreatDoorW.PrintLast
section
variable {ops:Array Oper} {a:Act} {o og:Oper} {g:Nat} {t:Tmp} {u:Bool}
end
end Go.Proofs.YtnjjdojonflckaaGreatDoorW.PrintLast
