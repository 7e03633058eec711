/- Contracts of Go functions that the law FnIndexNew reaches: each is told as a plain Lean function, with the walk that shows it; no condition beyond what each states. Written by a program of this session round the kit's printer. -/
import Derived.Test.YtelcdhjdlgedeaaGreatDoorVPFnIndexNewx0
namespace Go.Proofs.YtelcdhjdlgedeaaGreatDoor.PFnIndexNew
open Go.RowKit Go.Proofs.YtelcdhjdlgedeaaGreatDoorW.PrintWords Go.Proofs.YtelcdhjdlgedeaaGreatDoorW.PrintLast Go.Proofs.YtelcdhjdlgedeaaGreatDoorW.PrintMore
attribute [local go_sem] run_str_geq run_str_leq max2_int min2_int max_two min_two max_three min_three max_four min_four   -- for this text's walks alone
set_option linter.unusedVariables false
set_option linter.unusedSimpArgs false

theorem eqA96 (d : Nat) (w : World) (x0 y0 : ByteArray) (x1 y1 : ByteArray) :
  (Op.equalIn (d + 2) 96 (.agg #[.string x0, .string x1]) (.agg #[.string y0, .string y1])).run Tryz.prog w = .ok (x0.toList == y0.toList && (x1.toList == y1.toList)) w := by
 refine eqA_of Tryz.underlying96 u10_ ?_; refine eqf_cons u32_ u91_ u91_ (by go_simp) ?_; exact eqf_last u32_ u91_ u91_ (by go_simp)
end Go.Proofs.YtelcdhjdlgedeaaGreatDoor.PFnIndexNew
