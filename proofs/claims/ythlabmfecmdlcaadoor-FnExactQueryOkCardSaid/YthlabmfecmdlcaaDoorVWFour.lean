/- Words that a program of the kit printed; those that this claim does not name are left out. -/
import Derived.Test.YthlabmfecmdlcaaDoorVWTab
/-! ### 56. Four, five, six operations that may come up next, in any order -/
namespace Go.Proofs.YthlabmfecmdlcaaDoorW.PrintLast
section
variable {P : Program} {ops : Array Oper} {Q : Exit → Act → World → Prop} {md : Region.Mode} {S : World → Prop} {ds : List Nat} {T : Bool × List (List Nat × List Nat)}
end
end Go.Proofs.YthlabmfecmdlcaaDoorW.PrintLast
