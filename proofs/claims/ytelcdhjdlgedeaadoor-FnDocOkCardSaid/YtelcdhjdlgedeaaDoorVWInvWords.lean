/- Words that a program of the kit printed; those that this claim does not name are left out. -/
import Derived.Test.YtelcdhjdlgedeaaDoorVWInv
import Derived.Test.YtelcdhjdlgedeaaDoorVWFootNe
namespace Go.Proofs.YtelcdhjdlgedeaaDoorW.PrintWords
open Go.RowKit
end Go.Proofs.YtelcdhjdlgedeaaDoorW.PrintWords
namespace Go.Proofs.YtelcdhjdlgedeaaDoorW.PrintLast
section
variable {ops : Array Oper} {a : Act} {o og : Oper} {g : Nat} {t : Tmp} {u : Bool}
end
end Go.Proofs.YtelcdhjdlgedeaaDoorW.PrintLast
