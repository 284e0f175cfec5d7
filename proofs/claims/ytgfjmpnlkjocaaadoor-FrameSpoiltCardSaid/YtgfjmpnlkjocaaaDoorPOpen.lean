/- What the arguments of this seat's laws read as: each by its type. No condition. -/
import Derived.Test.YtgfjmpnlkjocaaaDoorPx0
import Derived.Test.YtgfjmpnlkjocaaaDoorOpen
import Derived.KernelRfl
namespace Go.Proofs.YtgfjmpnlkjocaaaDoor.P
open Go.RowKit Go.Proofs.YtgfjmpnlkjocaaaDoorW.PrintWords Go.Proofs.YtgfjmpnlkjocaaaDoor.Opn
set_option linter.unusedVariables false
set_option maxRecDepth 100000
theorem o5 : Opens Tryd.prog 5 (Kd.int .u8) (fun B x => (Lit.int .u8 x).wf = true) := opens_int Tryd.underlying5
theorem o23 : Opens Tryd.prog 23 (Kd.slice 5 (Kd.int .u8)) (fun B xs => (∀ x_ ∈ xs, (Lit.int .u8 x_).wf = true) ∧ xs.length * 1 ≤ 140737488351232 ∧ xs.length ≤ B) := opens_slice Tryd.underlying23 o5 (by kernel_rfl)
theorem o3 : Opens Tryd.prog 3 (Kd.int .i64) (fun B x => (Lit.int .i64 x).wf = true) := opens_int Tryd.underlying3
theorem o22 : Opens Tryd.prog 22 (Kd.int .u32) (fun B x => (Lit.int .u32 x).wf = true) := opens_int Tryd.underlying22
end Go.Proofs.YtgfjmpnlkjocaaaDoor.P
