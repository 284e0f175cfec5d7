/- What the arguments of this seat's laws read as: each by its type. No condition. -/
import Derived.Test.YtgfjmpnlkjocaaaDoorJx0
import Derived.Test.YtgfjmpnlkjocaaaDoorOpen
import Derived.KernelRfl
namespace Go.Proofs.YtgfjmpnlkjocaaaDoor.J
open Go.RowKit Go.Proofs.YtgfjmpnlkjocaaaDoorW.PrintWords Go.Proofs.YtgfjmpnlkjocaaaDoor.Opn
set_option linter.unusedVariables false
set_option maxRecDepth 100000
theorem o5 : Opens Tryd.prog 5 (Kd.int .u8) (fun B x => (Lit.int .u8 x).wf = true) := opens_int Tryd.underlying5
theorem o23 : Opens Tryd.prog 23 (Kd.slice 5 (Kd.int .u8)) (fun B xs => (∀ x_ ∈ xs, (Lit.int .u8 x_).wf = true) ∧ xs.length * 1 ≤ 140737488351232 ∧ xs.length ≤ B) := opens_slice Tryd.underlying23 o5 (by kernel_rfl)
theorem o30 : Opens Tryd.prog 30 (Kd.slice 23 (Kd.slice 5 (Kd.int .u8))) (fun B xs => (∀ x_ ∈ xs, (∀ x__ ∈ x_, (Lit.int .u8 x__).wf = true) ∧ x_.length * 1 ≤ 140737488351232 ∧ x_.length ≤ B) ∧ xs.length * 24 ≤ 140737488351232 ∧ xs.length ≤ B) := opens_slice Tryd.underlying30 o23 (by kernel_rfl)
end Go.Proofs.YtgfjmpnlkjocaaaDoor.J
