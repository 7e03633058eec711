/- Words that a program of the kit printed; those that this claim does not name are left out. -/
import Derived.Test.YthlabmfecmdlcaaDoorVWN
/-! ### 52. A row that stays read whatever happens to a block (a set of blocks) doesn't lie there -/
namespace Go.Proofs.YthlabmfecmdlcaaDoorW.PrintWords
open Go.RowKit
namespace Kd
section
variable {α : Type} {d : Kd α} {W : World} {g n : Nat} {S ok : Nat → Prop} {A : Option Addr} {ad : Addr} {xs : List α}
end
end Kd
end Go.Proofs.YthlabmfecmdlcaaDoorW.PrintWords
