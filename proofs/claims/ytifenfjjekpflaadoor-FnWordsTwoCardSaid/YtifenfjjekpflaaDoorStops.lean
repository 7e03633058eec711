/- The table of stop words as a world's memory holds it, and that a call which keeps what lay before keeps it; no condition. -/
import Derived.Test.YtifenfjjekpflaaDoorWMore
namespace Go.Proofs.YtifenfjjekpflaaDoorW.PrintMore
open Go.RowKit Go.Proofs.YtifenfjjekpflaaDoorW.PrintWords
def stopsL : List ByteArray := [⟨#[97]⟩, ⟨#[97, 110]⟩, ⟨#[97, 110, 100]⟩, ⟨#[111, 102]⟩, ⟨#[116, 104, 101]⟩, ⟨#[116, 111]⟩]
/-- The variable's cell holds a slice of the six stop words. -/
def StopsIn (w : World) : Prop := ∃ A c, w.cell? ⟨0, 0, none⟩ = some (.slice A stopsL.length c) ∧ stopsL.length ≤ c ∧ Kd.string.C w A stopsL.length stopsL
theorem StopsIn.below {w w' : World} (h : StopsIn w) (hb : Below w.heap.size w w') : StopsIn w' := by
  obtain ⟨A, c, h1, h2, h3⟩ := h
  exact ⟨A, c, (hb.cell (World.block_lt_of_cell? w _ h1)).trans h1, h2, Kd.C_below h3 hb⟩
end Go.Proofs.YtifenfjjekpflaaDoorW.PrintMore
