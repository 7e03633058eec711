/- Contracts of Go functions that the law FnDoc reaches: each is told as a plain Lean function, with the walk that shows it; no condition beyond what each states. Written by a program of this session round the kit's printer. -/
import Derived.Test.YtglcgkbecfmegaaDoorQPFnDocx0
namespace Go.Proofs.YtglcgkbecfmegaaDoor.PFnDoc
open Go.RowKit Go.Proofs.YtglcgkbecfmegaaDoorW.PrintWords Go.Proofs.YtglcgkbecfmegaaDoorW.PrintLast Go.Proofs.YtglcgkbecfmegaaDoorW.PrintMore
attribute [local go_sem] run_str_geq run_str_leq max2_int min2_int max_two min_two max_three min_three max_four min_four   -- for this text's walks alone
set_option linter.unusedVariables false
set_option linter.unusedSimpArgs false

theorem eqA74 (d : Nat) (w : World) (x0 y0 : ByteArray) (x1 y1 : ByteArray) :
  (Op.equalIn (d + 2) 74 (.agg #[.string x0, .string x1]) (.agg #[.string y0, .string y1])).run Tryd.prog w = .ok (x0.toList == y0.toList && (x1.toList == y1.toList)) w := by
 refine eqA_of Tryd.underlying74 u17_ ?_
 refine eqf_cons u67_ (by go_simp; rfl) (by go_simp; rfl) (by go_simp) ?_
 exact eqf_last u67_ (by go_simp; rfl) (by go_simp; rfl) (by go_simp)
end Go.Proofs.YtglcgkbecfmegaaDoor.PFnDoc
