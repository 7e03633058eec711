/- What the order of two texts answers, as the walks meet it; no condition. -/
import Derived.Test.YthlabmfecmdlcaaDoorVWMore
namespace Go.Proofs.YthlabmfecmdlcaaDoorW.PrintMore
open Go.RowKit Go.Proofs.YthlabmfecmdlcaaDoorW.PrintWords
theorem run_str_geq (P : Program) (t : TypeId) (a b : ByteArray) (w : World) : (binOp .geq t (.string a) (.string b)).run P w = .ok (.bool (!Op.bytesLess a.toList b.toList)) w := rfl
theorem run_str_lss (P : Program) (t : TypeId) (a b : ByteArray) (w : World) : (binOp .lss t (.string a) (.string b)).run P w = .ok (.bool (Op.bytesLess a.toList b.toList)) w := rfl
theorem run_str_leq (P : Program) (t : TypeId) (a b : ByteArray) (w : World) : (binOp .leq t (.string a) (.string b)).run P w = .ok (.bool (Op.bytesLess a.toList b.toList || a.toList == b.toList)) w := rfl
theorem run_str_gtr (P : Program) (t : TypeId) (a b : ByteArray) (w : World) : (binOp .gtr t (.string a) (.string b)).run P w = .ok (.bool (!(Op.bytesLess a.toList b.toList || a.toList == b.toList))) w := rfl
theorem size_lit (l : Array UInt8) : (⟨l⟩ : ByteArray).size = l.size := rfl
theorem isEmpty_bne (l : List UInt8) : l.isEmpty = !(l != []) := by cases l <;> rfl
end Go.Proofs.YthlabmfecmdlcaaDoorW.PrintMore
