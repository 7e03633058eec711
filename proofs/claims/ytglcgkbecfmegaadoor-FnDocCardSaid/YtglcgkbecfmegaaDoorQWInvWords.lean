/- Words that a program of the kit printed; those that this claim does not name are left out. -/
import Derived.Test.YtglcgkbecfmegaaDoorQWInv
import Derived.Test.YtglcgkbecfmegaaDoorQWFootNe
namespace Go.Proofs.YtglcgkbecfmegaaDoorW.PrintWords
open Go.RowKit
end Go.Proofs.YtglcgkbecfmegaaDoorW.PrintWords
namespace Go.Proofs.YtglcgkbecfmegaaDoorW.PrintLast
section
variable {ops : Array Oper} {a : Act} {o og : Oper} {g : Nat} {t : Tmp} {u : Bool}
end
end Go.Proofs.YtglcgkbecfmegaaDoorW.PrintLast
