/- Words that a program of the kit printed; those that this claim does not name are left out. -/
import Derived.Test.YtnjjdojonflckaaGreatDoorKWTab
namespace Go.Proofs.YtnjjdojonflckaaGreatDoorW.PrintLast
section
variable {P:Program} {ops:Array Oper} {Q:Exit→Act→World→Prop} {md:Region.Mode} {S:World→Prop} {ds:List Nat} {T:Bool × List (List Nat × List Nat)}
end
end Go.Proofs.YtnjjdojonflckaaGreatDoorW.PrintLast
