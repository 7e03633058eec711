/- What the walks know of package variables, and that a call which keeps what lay before keeps it; no condition. -/
import Derived.Test.YthlabmfecmdlcaaDoorVWMore
import Derived.Test.YthlabmfecmdlcaaDoorProg
namespace Go.Proofs.YthlabmfecmdlcaaDoorW.PrintMore
open Go.RowKit Go.Proofs.YthlabmfecmdlcaaDoorW.PrintWords
def stopsL : List ByteArray := [⟨#[97]⟩, ⟨#[97, 110]⟩, ⟨#[97, 110, 100]⟩, ⟨#[111, 102]⟩, ⟨#[116, 104, 101]⟩, ⟨#[116, 111]⟩]
def StopsIn (w : World) : Prop := (∃ A c, w.cell? ⟨0, 0, none⟩ = some (.slice A stopsL.length c) ∧ stopsL.length ≤ c ∧ Kd.string.C w A stopsL.length stopsL) ∧ (∃ m : Int, w.cell? ⟨1, 0, none⟩ = some (.int .i64 m))
theorem StopsIn.stops {w : World} (h : StopsIn w) : (∃ A c, w.cell? ⟨0, 0, none⟩ = some (.slice A stopsL.length c) ∧ stopsL.length ≤ c ∧ Kd.string.C w A stopsL.length stopsL) := h.1
theorem StopsIn.max {w : World} (h : StopsIn w) : (∃ m : Int, w.cell? ⟨1, 0, none⟩ = some (.int .i64 m)) := h.2
theorem StopsIn.below {w w' : World} (h : StopsIn w) (hb : Below w.heap.size w w') : StopsIn w' := by
  refine ⟨?_, ?_⟩
  · obtain ⟨A, c, h1, h2, h3⟩ := h.stops
    exact ⟨A, c, (hb.cell (World.block_lt_of_cell? w _ h1)).trans h1, h2, Kd.C_below h3 hb⟩
  · obtain ⟨m, h1⟩ := h.max
    exact ⟨m, (hb.cell (World.block_lt_of_cell? w _ h1)).trans h1⟩
end Go.Proofs.YthlabmfecmdlcaaDoorW.PrintMore
