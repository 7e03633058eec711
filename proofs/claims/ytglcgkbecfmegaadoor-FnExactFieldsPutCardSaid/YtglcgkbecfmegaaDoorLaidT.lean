/- What the row's condition on package variables gives a walk: the table of the powers of ten lies in memory; one input that meets the condition. -/
import Derived.Test.YtglcgkbecfmegaaDoorRows
import Derived.Test.YtglcgkbecfmegaaDoorStopsT
import Derived.Test.YtglcgkbecfmegaaDoorHanded2
import Derived.MakeChecks
import Derived.LaidMore
import Derived.LaidHandle
import Derived.RowKit
namespace Go.Proofs.YtglcgkbecfmegaaDoor.Laid
open Go Go.RowKit Go.Proofs.YtglcgkbecfmegaaDoorW.PrintWords Go.Proofs.YtglcgkbecfmegaaDoorW.PrintMore
abbrev listT : List (String × DataW Unit) := [("math/bits.deBruijn32tab", Rows.laid_math_bits_deBruijn32tab), ("math/bits.deBruijn64tab", Rows.laid_math_bits_deBruijn64tab), ("internal/strconv.uint64pow10", Rows.laid_internal_strconv_uint64pow10)]
theorem gTen : Tryd.prog.globalNamed "internal/strconv.uint64pow10" = some 2 := by kernel_rfl
theorem tTen : (Tryd.prog.globals[2]?).map (·.type) = some 140 := by kernel_rfl
theorem tenData : (Rows.laid_internal_strconv_uint64pow10 : DataW Unit) = Lib.tabData .u64 Lib.pow10Tab := by rfl
theorem glob_of_laid {W : World} (_ : W.ShapedOpen Tryd.prog) (h : laidMetH Tryd.prog listT W) : StopsIn W := by
  rw [MakeChecks.laidMetH_plain _ _ _ (by kernel_rfl)] at h
  obtain ⟨ps, ⟨_, _, _, _, _, _, _, _, _, _, ⟨_, _, _, _, _, _, _, _, _, _, ⟨g, t, cs, fuel, p, q, hg, hty, hvar, hd, _, _⟩, _⟩, _⟩, _⟩ := h
  obtain rfl := Option.some.inj (gTen.symm.trans hg)
  obtain rfl := Option.some.inj (tTen.symm.trans hty)
  rw [tenData] at hd
  have hcs := Lib.cells_of_tab (n := 20) (e := 122) Tryd.underlying140 Tryd.underlying122 (by kernel_rfl) (by kernel_rfl) hd
  unfold StopsIn Lib.TabIs
  rw [hvar]
  congr 1
  cases cs with
  | mk l => exact congrArg List.toArray hcs
theorem door_met (os : Os) (args : Array Value) : laidMetH Tryd.prog listT ((World.doorLaid Tryd.prog 400 os).forCall (fun _ _ => 0) ⟨#[], args, []⟩).memory :=
  laidMetH_of_parts3 (fuel := 8) (laidMet_of_run' 8 (by kernel_rfl) (by kernel_rfl)) (by kernel_rfl) (by kernel_rfl)
end Go.Proofs.YtglcgkbecfmegaaDoor.Laid
