/- What the row's condition on package variables and the world's shape give a walk; no condition of its own. -/
import Derived.Test.YtglcgkbecfmegaaDoorRows
import Derived.Test.YtglcgkbecfmegaaDoorQStopsM
import Derived.Test.YtglcgkbecfmegaaDoorQHanded2
import Derived.MakeChecks
import Derived.LaidMore
import Derived.LaidHandle
import Derived.LaidLaws
import Derived.RowKit
import Derived.Shelf.Vars
namespace Go.Proofs.YtglcgkbecfmegaaDoor.Laid
open Go Go.RowKit Go.Proofs.YtglcgkbecfmegaaDoorW.PrintWords Go.Proofs.YtglcgkbecfmegaaDoorW.PrintMore
abbrev listL : List (String × DataW Unit) := [("unicode/utf8.acceptRanges", Rows.laid_unicode_utf8_acceptRanges), ("unicode/utf8.first", Rows.laid_unicode_utf8_first)]
/-- What one variable of the list reads as. -/
theorem reads_of {w : World} : ∀ {l : List (String × DataW Unit)} {ps : List MemPlace}, DataW.LaidVars Tryd.prog w l ps → ∀ n d, (n, d) ∈ l →
    ∃ g t cs fuel p, Tryd.prog.globalNamed n = some g ∧ (Tryd.prog.globals[g]?).map (·.type) = some t ∧ w.var? Tryd.prog n = some cs ∧ DataW.trod (fun _ => ()) Tryd.prog w 0 (fun _ => true) false fuel t cs.toList = some (d, p)
  | [], _, _, _, _, hm => by cases hm
  | (n1, d1) :: r, ps, h, n, d, hm => by
    obtain ⟨g, t, cs, fuel, p, q, h1, h2, h3, h4, h5, _⟩ := h
    rcases List.mem_cons.1 hm with e | e
    · cases e
      exact ⟨g, t, cs, fuel, p, h1, h2, h3, h4⟩
    · exact reads_of h5 n d e
theorem glob_of_laid {W : World} (hs : W.ShapedOpen Tryd.prog) (_ : laidMetH Tryd.prog listL W) : StopsIn W := by
  refine ?_
  · exact Go.Proofs.cell_of_shapedOpen_int (g := 1) (zero := #[.int .i64 0]) (t := 3) hs (of_decide_eq_true (by kernel_rfl)) (by kernel_rfl) rfl (by kernel_rfl) (by kernel_rfl) Tryd.underlying3
end Go.Proofs.YtglcgkbecfmegaaDoor.Laid
