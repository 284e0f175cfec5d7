/- What the arguments of this seat's laws read as: each by its type. No condition. -/
import Derived.Test.YthdokkfcdjobiaaLx0
import Derived.Test.YthdokkfcdjobiaaOpen
import Derived.KernelRfl
namespace Go.Proofs.Ythdokkfcdjobiaa.L
open Go.RowKit Go.Proofs.YthdokkfcdjobiaaW.PrintWords Go.Proofs.Ythdokkfcdjobiaa.Opn
set_option linter.unusedVariables false
set_option maxRecDepth 100000
theorem o5 : Opens Try.prog 5 (Kd.int .u8) (fun B x => (Lit.int .u8 x).wf = true) := opens_int Try.underlying5
theorem o22 : Opens Try.prog 22 (Kd.slice 5 (Kd.int .u8)) (fun B xs => (∀ x_ ∈ xs, (Lit.int .u8 x_).wf = true) ∧ xs.length * 1 ≤ 140737488351232 ∧ xs.length ≤ B) := opens_slice Try.underlying22 o5 (by kernel_rfl)
theorem o3 : Opens Try.prog 3 (Kd.int .i64) (fun B x => (Lit.int .i64 x).wf = true) := opens_int Try.underlying3
end Go.Proofs.Ythdokkfcdjobiaa.L
