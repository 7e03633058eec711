/- What the walks know of package variables, and that a call which keeps what lay before keeps it; no condition. -/
import Derived.Test.YtglcgkbecfmegaaDoorWMore
import Derived.Test.YtglcgkbecfmegaaDoorProg
import Derived.Lib.LaidTab
import Derived.Lib.ItoaNum
namespace Go.Proofs.YtglcgkbecfmegaaDoorW.PrintMore
open Go.RowKit Go.Proofs.YtglcgkbecfmegaaDoorW.PrintWords
def StopsIn (w : World) : Prop := Lib.TabIs Tryd.prog w "internal/strconv.uint64pow10" .u64 Lib.pow10Tab
theorem StopsIn.tab {w : World} (h : StopsIn w) : Lib.TabIs Tryd.prog w "internal/strconv.uint64pow10" .u64 Lib.pow10Tab := h
theorem StopsIn.below {w w' : World} (h : StopsIn w) (hb : Below w.heap.size w w') : StopsIn w' := by
  unfold StopsIn
  · have h1 := h.tab
    unfold Lib.TabIs World.var? at h1 ⊢
    have hg : Tryd.prog.globalNamed "internal/strconv.uint64pow10" = some 2 := by kernel_rfl
    rw [hg] at h1 ⊢
    simp only [Option.bind_some] at h1 ⊢
    have hlt : 2 < w.heap.size := by
      rcases Nat.lt_or_ge 2 w.heap.size with h2 | h2
      · exact h2
      · rw [Array.getElem?_eq_none h2] at h1; cases h1
    rw [hb.block _ hlt]; exact h1
end Go.Proofs.YtglcgkbecfmegaaDoorW.PrintMore
