/- Contracts of Go functions that the law FnExactStem reaches: each is told as a plain Lean function, with the walk that shows it; no condition beyond what each states. Written by a program of this session round the kit's printer. -/
import Derived.Test.YtifenfjjekpflaaDoorProg
import Derived.Below
import Derived.Deep.Draws
import Derived.Deep.AppendLies
import Derived.Maps.AppendAt
import Derived.OwnWalk
import Derived.Laws.BytesArg
import Derived.Laws.MakeOwn
import Derived.Laws.OwnMore
import Derived.Deep.OwnRows
import Derived.Tactics
import Derived.Lib.ConvBytes
import Derived.Laws.Slices
import Derived.WalkKit
import Derived.KernelRfl
import Derived.RowKit3
import Derived.Deep.LoopGhost
import Derived.Deep.QuietTactic
import Derived.BigQuiet
import Derived.WideLaws
import Derived.Deep.DeepCutAuto
import Derived.Deep.CutBlock
import Derived.Deep.RegionHeld3
import Derived.Laws.Rows
import Derived.Lib.AppendStr
import Derived.ArgAppend
import Derived.Laws.IdiomCopy
import Derived.OrdersHeld
import Derived.Laws.BitsLemmas
import Derived.RowKit
import Derived.Test.YtifenfjjekpflaaDoorStops
import Derived.Test.YtifenfjjekpflaaDoorWWords
import Derived.Test.YtifenfjjekpflaaDoorWLast
import Derived.Test.YtifenfjjekpflaaDoorWTab
import Derived.Test.YtifenfjjekpflaaDoorWFour
import Derived.Test.YtifenfjjekpflaaDoorWQPut
import Derived.Test.YtifenfjjekpflaaDoorWApart
import Derived.Test.YtifenfjjekpflaaDoorWArr
import Derived.Test.YtifenfjjekpflaaDoorWZeros
import Derived.Test.YtifenfjjekpflaaDoorWFoot
import Derived.Test.YtifenfjjekpflaaDoorWKept
import Derived.Test.YtifenfjjekpflaaDoorWShare
import Derived.Test.YtifenfjjekpflaaDoorWN
import Derived.Test.YtifenfjjekpflaaDoorWFootNe
import Derived.Test.YtifenfjjekpflaaDoorWAt
import Derived.Test.YtifenfjjekpflaaDoorWEqStruct
import Derived.Test.YtifenfjjekpflaaDoorWRepsOne
import Derived.Test.YtifenfjjekpflaaDoorWInv
import Derived.Test.YtifenfjjekpflaaDoorWInvWords
import Derived.Test.YtifenfjjekpflaaDoorWGuard
import Derived.Test.YtifenfjjekpflaaDoorWNEv
import Derived.Test.YtifenfjjekpflaaDoorWMore
namespace Go.Proofs.YtifenfjjekpflaaDoor.PFnExactStem
open Go.RowKit Go.Proofs.YtifenfjjekpflaaDoorW.PrintWords Go.Proofs.YtifenfjjekpflaaDoorW.PrintLast Go.Proofs.YtifenfjjekpflaaDoorW.PrintMore
attribute [local go_sem] max2_int min2_int max_two min_two max_three min_three max_four min_four   -- for this text's walks alone
set_option linter.unusedVariables false
set_option linter.unusedSimpArgs false



def errW : Option Int → Value
  | none => .nilIface
  | some c => .iface 0 (.int .i64 c)
theorem errW_none : errW none = .nilIface := rfl
theorem errW_some (c : Int) : errW (some c) = .iface 0 (.int .i64 c) := rfl

theorem info5 : (Tryd.prog.info? 5).map (fun i => (i.zero, i.size, i.bytes)) = some (some (.int .u8 0), 1, 1) := by kernel_rfl
theorem info9 : (Tryd.prog.info? 9).map (fun i => (i.zero, i.size, i.bytes)) = some (some (.string ⟨#[]⟩), 1, 16) := by kernel_rfl
-- the values' own types

end Go.Proofs.YtifenfjjekpflaaDoor.PFnExactStem
