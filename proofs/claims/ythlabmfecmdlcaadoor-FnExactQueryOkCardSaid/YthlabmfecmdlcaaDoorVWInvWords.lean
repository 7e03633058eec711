/- Words that a program of the kit printed; those that this claim does not name are left out. -/
import Derived.Test.YthlabmfecmdlcaaDoorVWInv
import Derived.Test.YthlabmfecmdlcaaDoorVWFootNe
namespace Go.Proofs.YthlabmfecmdlcaaDoorW.PrintWords
open Go.RowKit
end Go.Proofs.YthlabmfecmdlcaaDoorW.PrintWords
namespace Go.Proofs.YthlabmfecmdlcaaDoorW.PrintLast
section
variable {ops : Array Oper} {a : Act} {o og : Oper} {g : Nat} {t : Tmp} {u : Bool}
end
end Go.Proofs.YthlabmfecmdlcaaDoorW.PrintLast
