/- Contracts of Go functions that the law FnSetNone reaches: each is told as a plain Lean function, with the walk that shows it; no condition beyond what each states. Written by a program of this session round the kit's printer. -/
import Derived.Test.YtglcgkbecfmegaaProg
import Derived.Below
import Derived.Deep.Draws
import Derived.Deep.AppendLies
import Derived.Maps.AppendAt
import Derived.OwnWalk
import Derived.Laws.BytesArg
import Derived.Laws.MakeOwn
import Derived.Laws.OwnMore
import Derived.Deep.OwnRows
import Derived.Tactics
import Derived.Lib.ConvBytes
import Derived.Laws.Slices
import Derived.WalkKit
import Derived.KernelRfl
import Derived.RowKit3
import Derived.Deep.LoopGhost
import Derived.Deep.QuietTactic
import Derived.BigQuiet
import Derived.WideLaws
import Derived.Deep.DeepCutAuto
import Derived.Deep.CutBlock
import Derived.Deep.RegionHeld3
import Derived.Laws.Rows
import Derived.Lib.AppendStr
import Derived.ArgAppend
import Derived.Laws.IdiomCopy
import Derived.OrdersHeld
import Derived.Laws.BitsLemmas
import Derived.RowKit
import Derived.Test.YtglcgkbecfmegaaOwnRows
import Derived.Test.YtglcgkbecfmegaaShelf
import Derived.Test.YtglcgkbecfmegaaWWords
import Derived.Test.YtglcgkbecfmegaaWLast
import Derived.Test.YtglcgkbecfmegaaWTab
import Derived.Test.YtglcgkbecfmegaaWFour
import Derived.Test.YtglcgkbecfmegaaWQPut
import Derived.Test.YtglcgkbecfmegaaWApart
import Derived.Test.YtglcgkbecfmegaaWArr
import Derived.Test.YtglcgkbecfmegaaWZeros
import Derived.Test.YtglcgkbecfmegaaWFoot
import Derived.Test.YtglcgkbecfmegaaWKept
import Derived.Test.YtglcgkbecfmegaaWShare
import Derived.Test.YtglcgkbecfmegaaWN
import Derived.Test.YtglcgkbecfmegaaWFootNe
import Derived.Test.YtglcgkbecfmegaaWAt
import Derived.Test.YtglcgkbecfmegaaWEqStruct
import Derived.Test.YtglcgkbecfmegaaWRepsOne
import Derived.Test.YtglcgkbecfmegaaWInv
import Derived.Test.YtglcgkbecfmegaaWInvWords
import Derived.Test.YtglcgkbecfmegaaWGuard
import Derived.Test.YtglcgkbecfmegaaWNEv
import Derived.Test.YtglcgkbecfmegaaWMore
namespace Go.Proofs.Ytglcgkbecfmegaa.PFnSetNone
open Go.RowKit Go.Proofs.YtglcgkbecfmegaaW.PrintWords Go.Proofs.YtglcgkbecfmegaaW.PrintLast Go.Proofs.YtglcgkbecfmegaaW.PrintMore
attribute [local go_sem] max2_int min2_int max_two min_two max_three min_three max_four min_four   -- for this text's walks alone
set_option linter.unusedVariables false
set_option linter.unusedSimpArgs false



def errW : Option Int → Value
  | none => .nilIface
  | some c => .iface 0 (.int .i64 c)
theorem errW_none : errW none = .nilIface := rfl
theorem errW_some (c : Int) : errW (some c) = .iface 0 (.int .i64 c) := rfl

theorem info3 : (Try.prog.info? 3).map (fun i => (i.zero, i.size, i.bytes)) = some (some (.int .i64 0), 1, 8) := by kernel_rfl
theorem info5 : (Try.prog.info? 5).map (fun i => (i.zero, i.size, i.bytes)) = some (some (.int .u8 0), 1, 1) := by kernel_rfl
-- the values' own types

end Go.Proofs.Ytglcgkbecfmegaa.PFnSetNone
