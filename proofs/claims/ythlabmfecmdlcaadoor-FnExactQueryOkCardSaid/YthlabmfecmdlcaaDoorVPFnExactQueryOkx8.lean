/- Contracts of Go functions that the law FnExactQueryOk reaches: each is told as a plain Lean function, with the walk that shows it; no condition beyond what each states. Written by a program of this session round the kit's printer. -/
import Derived.Test.YthlabmfecmdlcaaDoorVPFnExactQueryOkx0
import Derived.Test.YthlabmfecmdlcaaDoorVPFnExactQueryOkx6
import Derived.Test.YthlabmfecmdlcaaDoorVPFnExactQueryOkx7
import Derived.Test.YthlabmfecmdlcaaDoorVPFnExactQueryOkx80
import Derived.Test.YthlabmfecmdlcaaDoorVPFnExactQueryOkx81
import Derived.Test.YthlabmfecmdlcaaDoorVPFnExactQueryOkx82
import Derived.Test.YthlabmfecmdlcaaDoorVPFnExactQueryOkx83
namespace Go.Proofs.YthlabmfecmdlcaaDoor.PFnExactQueryOk
open Go.RowKit Go.Proofs.YthlabmfecmdlcaaDoorW.PrintWords Go.Proofs.YthlabmfecmdlcaaDoorW.PrintLast Go.Proofs.YthlabmfecmdlcaaDoorW.PrintMore
attribute [local go_sem] isSome_setCell run_str_geq run_str_leq max2_int min2_int max_two min_two max_three min_three max_four min_four   -- for this text's walks alone
set_option linter.unusedVariables false
set_option linter.unusedSimpArgs false

theorem impl_Query_ok.calls (k : Nat) : impl_Query_ok.Stmt k := by
 induction k using Nat.strongRecOn with
 | _ k ih =>
 intro a0_0 a0_1 a0_2 a0_3 a0_4 A0_5 c0_5 l0_5 a1 r w hG hr0_5 hc0_5 h; by_cases h4 : a0_0 = 4
 ·exact impl_Query_ok.calls_4 k ih a0_0 a0_1 a0_2 a0_3 a0_4 A0_5 c0_5 l0_5 a1 r w hG hr0_5 hc0_5 h ⟨h4⟩
 ·by_cases hA : a0_0 = 1 ∨ a0_0 = 2 ∨ a0_0 = 3 ∨ a0_0 = 5 ∨ a0_0 = 6
  ·exact impl_Query_ok.calls_A k ih a0_0 a0_1 a0_2 a0_3 a0_4 A0_5 c0_5 l0_5 a1 r w hG hr0_5 hc0_5 h ⟨hA⟩
  ·exact impl_Query_ok.calls_B k ih a0_0 a0_1 a0_2 a0_3 a0_4 A0_5 c0_5 l0_5 a1 r w hG hr0_5 hc0_5 h ⟨u52_⟩
end Go.Proofs.YthlabmfecmdlcaaDoor.PFnExactQueryOk
