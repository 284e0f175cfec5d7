/- What the arguments of this seat's laws read as: each by its type. No condition. -/
import Derived.Test.YtebjppnggjnghaaHx0
import Derived.Test.YtebjppnggjnghaaOpen
import Derived.KernelRfl
namespace Go.Proofs.Ytebjppnggjnghaa.H
open Go.RowKit Go.Proofs.YtebjppnggjnghaaW.PrintWords Go.Proofs.Ytebjppnggjnghaa.Opn
set_option linter.unusedVariables false
set_option maxRecDepth 100000
theorem o31 : Opens Try.prog 31 (Kd.int .u64) (fun B x => (Lit.int .u64 x).wf = true) := opens_int Try.underlying31
theorem o2 : Opens Try.prog 2 (Kd.int .i64) (fun B x => (Lit.int .i64 x).wf = true) := opens_int Try.underlying2
theorem o5 : Opens Try.prog 5 (Kd.int .u8) (fun B x => (Lit.int .u8 x).wf = true) := opens_int Try.underlying5
theorem o25 : Opens Try.prog 25 (Kd.slice 5 (Kd.int .u8)) (fun B xs => (∀ x_ ∈ xs, (Lit.int .u8 x_).wf = true) ∧ xs.length * 1 ≤ 140737488351232 ∧ xs.length ≤ B) := opens_slice Try.underlying25 o5 (by kernel_rfl)
theorem o3 : Opens Try.prog 3 (Kd.int .i64) (fun B x => (Lit.int .i64 x).wf = true) := opens_int Try.underlying3
theorem o22 : Opens Try.prog 22 (Kd.slice 2 (Kd.int .i64)) (fun B xs => (∀ x_ ∈ xs, (Lit.int .i64 x_).wf = true) ∧ xs.length * 8 ≤ 140737488351232 ∧ xs.length ≤ B) := opens_slice Try.underlying22 o2 (by kernel_rfl)
theorem o4 : Opens Try.prog 4 Kd.bool (fun B x => True) := opens_bool Try.underlying4
theorem o9 : Opens Try.prog 9 Kd.string (fun B x => x.size ≤ 140737488351232 ∧ x.size ≤ B) := opens_string Try.underlying9
end Go.Proofs.Ytebjppnggjnghaa.H
