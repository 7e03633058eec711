/- Contracts of Go functions that the law FnExactSetGaps reaches: each is told as a plain Lean function, with the walk that shows it; no condition beyond what each states. Written by a program of this session round the kit's printer. -/
import Derived.Test.YtglcgkbecfmegaaDoorProg
import Derived.Below
import Derived.Deep.Draws
import Derived.Deep.AppendLies
import Derived.Maps.AppendAt
import Derived.OwnWalk
import Derived.Laws.BytesArg
import Derived.Laws.MakeOwn
import Derived.Laws.OwnMore
import Derived.Deep.OwnRows
import Derived.Tactics
import Derived.Lib.ConvBytes
import Derived.Laws.Slices
import Derived.WalkKit
import Derived.KernelRfl
import Derived.RowKit3
import Derived.Deep.LoopGhost
import Derived.Deep.QuietTactic
import Derived.BigQuiet
import Derived.WideLaws
import Derived.Deep.DeepCutAuto
import Derived.Deep.CutBlock
import Derived.Deep.RegionHeld3
import Derived.Laws.Rows
import Derived.Lib.AppendStr
import Derived.ArgAppend
import Derived.Laws.IdiomCopy
import Derived.OrdersHeld
import Derived.Laws.BitsLemmas
import Derived.RowKit
import Derived.Test.YtglcgkbecfmegaaDoorShelf
import Derived.Sort.Grow
import Derived.Test.YtglcgkbecfmegaaDoorOwnRows
import Derived.Lib.SplitLaws
import Derived.Test.YtglcgkbecfmegaaDoorStrs
import Derived.Test.YtglcgkbecfmegaaDoorStopsT
import Derived.Test.YtglcgkbecfmegaaDoorWWords
import Derived.Test.YtglcgkbecfmegaaDoorWLast
import Derived.Test.YtglcgkbecfmegaaDoorWTab
import Derived.Test.YtglcgkbecfmegaaDoorWFour
import Derived.Test.YtglcgkbecfmegaaDoorWQPut
import Derived.Test.YtglcgkbecfmegaaDoorWApart
import Derived.Test.YtglcgkbecfmegaaDoorWArr
import Derived.Test.YtglcgkbecfmegaaDoorWZeros
import Derived.Test.YtglcgkbecfmegaaDoorWFoot
import Derived.Test.YtglcgkbecfmegaaDoorWKept
import Derived.Test.YtglcgkbecfmegaaDoorWShare
import Derived.Test.YtglcgkbecfmegaaDoorWN
import Derived.Test.YtglcgkbecfmegaaDoorWFootNe
import Derived.Test.YtglcgkbecfmegaaDoorWAt
import Derived.Test.YtglcgkbecfmegaaDoorWEqStruct
import Derived.Test.YtglcgkbecfmegaaDoorWRepsOne
import Derived.Test.YtglcgkbecfmegaaDoorWInv
import Derived.Test.YtglcgkbecfmegaaDoorWInvWords
import Derived.Test.YtglcgkbecfmegaaDoorWGuard
import Derived.Test.YtglcgkbecfmegaaDoorWNEv
import Derived.Test.YtglcgkbecfmegaaDoorWMore
namespace Go.Proofs.YtglcgkbecfmegaaDoor.PFnExactSetGaps
open Go.RowKit Go.Proofs.YtglcgkbecfmegaaDoorW.PrintWords Go.Proofs.YtglcgkbecfmegaaDoorW.PrintLast Go.Proofs.YtglcgkbecfmegaaDoorW.PrintMore
attribute [local go_sem] run_str_geq run_str_leq max2_int min2_int max_two min_two max_three min_three max_four min_four   -- for this text's walks alone
set_option linter.unusedVariables false
set_option linter.unusedSimpArgs false



def errW : Option Int → Value
  | none => .nilIface
  | some c => .iface 0 (.int .i64 c)
theorem errW_none : errW none = .nilIface := rfl
theorem errW_some (c : Int) : errW (some c) = .iface 0 (.int .i64 c) := rfl

theorem info3 : (Tryd.prog.info? 3).map (fun i => (i.zero, i.size, i.bytes)) = some (some (.int .i64 0), 1, 8) := by kernel_rfl
theorem info5 : (Tryd.prog.info? 5).map (fun i => (i.zero, i.size, i.bytes)) = some (some (.int .u8 0), 1, 1) := by kernel_rfl
theorem info9 : (Tryd.prog.info? 9).map (fun i => (i.zero, i.size, i.bytes)) = some (some (.string ⟨#[]⟩), 1, 16) := by kernel_rfl
-- the values' own types

end Go.Proofs.YtglcgkbecfmegaaDoor.PFnExactSetGaps
