/- What the row's condition on package variables and the world's shape give a walk; no condition of its own. -/
import Derived.Test.YtglcgkbecfmegaaDoorRows
import Derived.Test.YtglcgkbecfmegaaDoorStopsT
import Derived.Test.YtglcgkbecfmegaaDoorHanded2
import Derived.MakeChecks
import Derived.LaidMore
import Derived.LaidHandle
import Derived.LaidLaws
import Derived.RowKit
import Derived.Shelf.Vars
import Derived.Lib.LaidTab
import Derived.Lib.ItoaNum
namespace Go.Proofs.YtglcgkbecfmegaaDoor.Laid
open Go Go.RowKit Go.Proofs.YtglcgkbecfmegaaDoorW.PrintWords Go.Proofs.YtglcgkbecfmegaaDoorW.PrintMore
abbrev listL : List (String × DataW Unit) := [("math/bits.deBruijn32tab", Rows.laid_math_bits_deBruijn32tab), ("math/bits.deBruijn64tab", Rows.laid_math_bits_deBruijn64tab), ("internal/strconv.uint64pow10", Rows.laid_internal_strconv_uint64pow10)]
/-- What one variable of the list reads as. -/
theorem reads_of {w : World} : ∀ {l : List (String × DataW Unit)} {ps : List MemPlace}, DataW.LaidVars Tryd.prog w l ps → ∀ n d, (n, d) ∈ l →
    ∃ g t cs fuel p, Tryd.prog.globalNamed n = some g ∧ (Tryd.prog.globals[g]?).map (·.type) = some t ∧ w.var? Tryd.prog n = some cs ∧ DataW.trod (fun _ => ()) Tryd.prog w 0 (fun _ => true) false fuel t cs.toList = some (d, p)
  | [], _, _, _, _, hm => by cases hm
  | (n1, d1) :: r, ps, h, n, d, hm => by
    obtain ⟨g, t, cs, fuel, p, q, h1, h2, h3, h4, h5, _⟩ := h
    rcases List.mem_cons.1 hm with e | e
    · cases e
      exact ⟨g, t, cs, fuel, p, h1, h2, h3, h4⟩
    · exact reads_of h5 n d e
theorem gTen : Tryd.prog.globalNamed "internal/strconv.uint64pow10" = some 2 := by kernel_rfl
theorem tTen : (Tryd.prog.globals[2]?).map (·.type) = some 140 := by kernel_rfl
theorem tenData : (Rows.laid_internal_strconv_uint64pow10 : DataW Unit) = Lib.tabData .u64 Lib.pow10Tab := by rfl
theorem glob_of_laid {W : World} (_ : W.ShapedOpen Tryd.prog) (h : laidMetH Tryd.prog listL W) : StopsIn W := by
  rw [MakeChecks.laidMetH_plain _ _ _ (by kernel_rfl)] at h
  obtain ⟨ps, hV, _⟩ := h
  refine ?_
  · obtain ⟨g, t, cs, fuel, p, hg, hty, hvar, hd⟩ := reads_of hV "internal/strconv.uint64pow10" Rows.laid_internal_strconv_uint64pow10 (by simp [listL])
    obtain rfl := Option.some.inj (gTen.symm.trans hg)
    obtain rfl := Option.some.inj (tTen.symm.trans hty)
    rw [tenData] at hd
    have hcs := Lib.cells_of_tab (n := 20) (e := 122) Tryd.underlying140 Tryd.underlying122 (by kernel_rfl) (by kernel_rfl) hd
    (try unfold StopsIn)
    unfold Lib.TabIs
    rw [hvar]
    congr 1
    cases cs with
    | mk l => exact congrArg List.toArray hcs
end Go.Proofs.YtglcgkbecfmegaaDoor.Laid
