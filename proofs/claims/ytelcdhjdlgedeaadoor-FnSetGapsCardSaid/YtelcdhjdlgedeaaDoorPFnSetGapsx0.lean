/- Contracts of Go functions that the law FnSetGaps reaches: each is told as a plain Lean function, with the walk that shows it; no condition beyond what each states. Written by a program of this session round the kit's printer. -/
import Derived.Test.YtelcdhjdlgedeaaDoorProg
import Derived.Below
import Derived.Deep.Draws
import Derived.Deep.AppendLies
import Derived.Maps.AppendAt
import Derived.OwnWalk
import Derived.Laws.BytesArg
import Derived.Laws.MakeOwn
import Derived.Laws.OwnMore
import Derived.Deep.OwnRows
import Derived.Tactics
import Derived.Lib.ConvBytes
import Derived.Laws.Slices
import Derived.WalkKit
import Derived.KernelRfl
import Derived.RowKit3
import Derived.Deep.LoopGhost
import Derived.Deep.QuietTactic
import Derived.BigQuiet
import Derived.WideLaws
import Derived.Deep.DeepCutAuto
import Derived.Deep.CutBlock
import Derived.Deep.RegionHeld3
import Derived.Laws.Rows
import Derived.Lib.AppendStr
import Derived.ArgAppend
import Derived.Laws.IdiomCopy
import Derived.OrdersHeld
import Derived.Laws.BitsLemmas
import Derived.RowKit
import Derived.Test.YtelcdhjdlgedeaaDoorShelf
import Derived.Lib.AtoiAllCases
import Derived.Lib.Hide
import Derived.Sort.Grow
import Derived.Test.YtelcdhjdlgedeaaDoorOwnRows
import Derived.Lib.SplitLaws
import Derived.Test.YtelcdhjdlgedeaaDoorStrs
import Derived.Test.YtelcdhjdlgedeaaDoorStopsTME
import Derived.Test.YtelcdhjdlgedeaaDoorWWords
import Derived.Test.YtelcdhjdlgedeaaDoorWLast
import Derived.Test.YtelcdhjdlgedeaaDoorWTab
import Derived.Test.YtelcdhjdlgedeaaDoorWFour
import Derived.Test.YtelcdhjdlgedeaaDoorWQPut
import Derived.Test.YtelcdhjdlgedeaaDoorWApart
import Derived.Test.YtelcdhjdlgedeaaDoorWArr
import Derived.Test.YtelcdhjdlgedeaaDoorWZeros
import Derived.Test.YtelcdhjdlgedeaaDoorWFoot
import Derived.Test.YtelcdhjdlgedeaaDoorWKept
import Derived.Test.YtelcdhjdlgedeaaDoorWShare
import Derived.Test.YtelcdhjdlgedeaaDoorWN
import Derived.Test.YtelcdhjdlgedeaaDoorWFootNe
import Derived.Test.YtelcdhjdlgedeaaDoorWAt
import Derived.Test.YtelcdhjdlgedeaaDoorWEqStruct
import Derived.Test.YtelcdhjdlgedeaaDoorWRepsOne
import Derived.Test.YtelcdhjdlgedeaaDoorWInv
import Derived.Test.YtelcdhjdlgedeaaDoorWInvWords
import Derived.Test.YtelcdhjdlgedeaaDoorWGuard
import Derived.Test.YtelcdhjdlgedeaaDoorWNEv
import Derived.Test.YtelcdhjdlgedeaaDoorWMore
namespace Go.Proofs.YtelcdhjdlgedeaaDoor.PFnSetGaps
open Go.RowKit Go.Proofs.YtelcdhjdlgedeaaDoorW.PrintWords Go.Proofs.YtelcdhjdlgedeaaDoorW.PrintLast Go.Proofs.YtelcdhjdlgedeaaDoorW.PrintMore
attribute [local go_sem] run_str_geq run_str_leq max2_int min2_int max_two min_two max_three min_three max_four min_four   -- for this text's walks alone
set_option linter.unusedVariables false
set_option linter.unusedSimpArgs false



def errW : Option Int → Value
  | none => .nilIface
  | some c => .iface 0 (.int .i64 c)
theorem errW_none : errW none = .nilIface := rfl
theorem errW_some (c : Int) : errW (some c) = .iface 0 (.int .i64 c) := rfl

theorem info3 : (Tryd.prog.info? 3).map (fun i => (i.zero, i.size, i.bytes)) = some (some (.int .i64 0), 1, 8) := by kernel_rfl
theorem info5 : (Tryd.prog.info? 5).map (fun i => (i.zero, i.size, i.bytes)) = some (some (.int .u8 0), 1, 1) := by kernel_rfl
theorem info9 : (Tryd.prog.info? 9).map (fun i => (i.zero, i.size, i.bytes)) = some (some (.string ⟨#[]⟩), 1, 16) := by kernel_rfl
-- the values' own types

end Go.Proofs.YtelcdhjdlgedeaaDoor.PFnSetGaps
