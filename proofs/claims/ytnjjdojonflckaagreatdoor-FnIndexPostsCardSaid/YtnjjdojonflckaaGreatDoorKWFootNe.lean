/- Words that a program of the kit printed; those that this claim does not name are left out. -/
import Derived.Test.YtnjjdojonflckaaGreatDoorKWN
namespace Go.Proofs.YtnjjdojonflckaaGreatDoorW.PrintWords
open Go.RowKit
namespace Kd
section
variable {α : Type} {d:Kd α} {W:World} {g n:Nat} {S ok:Nat→Prop} {A:Option Addr} {ad:Addr} {xs:List α}
end
end Kd
end Go.Proofs.YtnjjdojonflckaaGreatDoorW.PrintWords
