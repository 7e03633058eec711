/- What the walks know of package variables, and that a call which keeps what lay before keeps it; no condition. -/
import Derived.Test.YtglcgkbecfmegaaDoorQWMore
import Derived.Test.YtglcgkbecfmegaaDoorProg
namespace Go.Proofs.YtglcgkbecfmegaaDoorW.PrintMore
open Go.RowKit Go.Proofs.YtglcgkbecfmegaaDoorW.PrintWords
def StopsIn (w : World) : Prop := (∃ m : Int, w.cell? ⟨1, 0, none⟩ = some (.int .i64 m))
theorem StopsIn.max {w : World} (h : StopsIn w) : (∃ m : Int, w.cell? ⟨1, 0, none⟩ = some (.int .i64 m)) := h
theorem StopsIn.below {w w' : World} (h : StopsIn w) (hb : Below w.heap.size w w') : StopsIn w' := by
  unfold StopsIn
  · obtain ⟨m, h1⟩ := h.max
    exact ⟨m, (hb.cell (World.block_lt_of_cell? w _ h1)).trans h1⟩
end Go.Proofs.YtglcgkbecfmegaaDoorW.PrintMore
