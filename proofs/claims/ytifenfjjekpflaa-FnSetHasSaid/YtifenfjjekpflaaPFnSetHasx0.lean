/- Contracts of Go functions that the law FnSetHas reaches: each is told as a plain Lean function, with the walk that shows it; no condition beyond what each states. Written by a program of this session round the kit's printer. -/
import Derived.Test.YtifenfjjekpflaaProg
import Derived.Below
import Derived.Deep.Draws
import Derived.Deep.AppendLies
import Derived.Maps.AppendAt
import Derived.OwnWalk
import Derived.Laws.BytesArg
import Derived.Laws.MakeOwn
import Derived.Laws.OwnMore
import Derived.Deep.OwnRows
import Derived.Tactics
import Derived.Lib.ConvBytes
import Derived.Laws.Slices
import Derived.WalkKit
import Derived.KernelRfl
import Derived.RowKit3
import Derived.Deep.LoopGhost
import Derived.Deep.QuietTactic
import Derived.BigQuiet
import Derived.WideLaws
import Derived.Deep.DeepCutAuto
import Derived.Deep.CutBlock
import Derived.Deep.RegionHeld3
import Derived.Laws.Rows
import Derived.Lib.AppendStr
import Derived.ArgAppend
import Derived.Laws.IdiomCopy
import Derived.OrdersHeld
import Derived.Laws.BitsLemmas
import Derived.RowKit
import Derived.Test.YtifenfjjekpflaaWWords
import Derived.Test.YtifenfjjekpflaaWLast
import Derived.Test.YtifenfjjekpflaaWTab
import Derived.Test.YtifenfjjekpflaaWFour
import Derived.Test.YtifenfjjekpflaaWQPut
import Derived.Test.YtifenfjjekpflaaWApart
import Derived.Test.YtifenfjjekpflaaWArr
import Derived.Test.YtifenfjjekpflaaWZeros
import Derived.Test.YtifenfjjekpflaaWFoot
import Derived.Test.YtifenfjjekpflaaWKept
import Derived.Test.YtifenfjjekpflaaWShare
import Derived.Test.YtifenfjjekpflaaWN
import Derived.Test.YtifenfjjekpflaaWFootNe
import Derived.Test.YtifenfjjekpflaaWAt
import Derived.Test.YtifenfjjekpflaaWEqStruct
import Derived.Test.YtifenfjjekpflaaWRepsOne
import Derived.Test.YtifenfjjekpflaaWInv
import Derived.Test.YtifenfjjekpflaaWInvWords
import Derived.Test.YtifenfjjekpflaaWGuard
import Derived.Test.YtifenfjjekpflaaWNEv
import Derived.Test.YtifenfjjekpflaaWMore
namespace Go.Proofs.Ytifenfjjekpflaa.PFnSetHas
open Go.RowKit Go.Proofs.YtifenfjjekpflaaW.PrintWords Go.Proofs.YtifenfjjekpflaaW.PrintLast Go.Proofs.YtifenfjjekpflaaW.PrintMore
attribute [local go_sem] max2_int min2_int max_two min_two max_three min_three max_four min_four   -- for this text's walks alone
set_option linter.unusedVariables false
set_option linter.unusedSimpArgs false



def errW : Option Int → Value
  | none => .nilIface
  | some c => .iface 0 (.int .i64 c)
theorem errW_none : errW none = .nilIface := rfl
theorem errW_some (c : Int) : errW (some c) = .iface 0 (.int .i64 c) := rfl

theorem info3 : (Try.prog.info? 3).map (fun i => (i.zero, i.size, i.bytes)) = some (some (.int .i64 0), 1, 8) := by kernel_rfl
theorem info5 : (Try.prog.info? 5).map (fun i => (i.zero, i.size, i.bytes)) = some (some (.int .u8 0), 1, 1) := by kernel_rfl
-- the values' own types

end Go.Proofs.Ytifenfjjekpflaa.PFnSetHas
