/- Words that a program of the kit printed; those that this claim does not name are left out. -/
import Derived.Test.YtelcdhjdlgedeaaGreatDoorVWInv
import Derived.Test.YtelcdhjdlgedeaaGreatDoorVWFootNe
namespace Go.Proofs.YtelcdhjdlgedeaaGreatDoorW.PrintWords
open Go.RowKit
end Go.Proofs.YtelcdhjdlgedeaaGreatDoorW.PrintWords
namespace Go.Proofs.YtelcdhjdlgedeaaGreatDoorW.PrintLast
section
variable {ops : Array Oper} {a : Act} {o og : Oper} {g : Nat} {t : Tmp} {u : Bool}
end
end Go.Proofs.YtelcdhjdlgedeaaGreatDoorW.PrintLast
