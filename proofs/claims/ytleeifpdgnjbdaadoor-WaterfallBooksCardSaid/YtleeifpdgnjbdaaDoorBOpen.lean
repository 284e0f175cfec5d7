/- What the arguments of this seat's laws read as: each by its type. No condition. -/
import Derived.Test.YtleeifpdgnjbdaaDoorBx0
import Derived.Test.YtleeifpdgnjbdaaDoorOpen
import Derived.KernelRfl
namespace Go.Proofs.YtleeifpdgnjbdaaDoor.B
open Go.RowKit Go.Proofs.YtleeifpdgnjbdaaDoorW.PrintWords Go.Proofs.YtleeifpdgnjbdaaDoor.Opn
set_option linter.unusedVariables false
set_option maxRecDepth 100000
theorem o3 : Opens Tryd.prog 3 (Kd.int .i64) (fun B x => (Lit.int .i64 x).wf = true) := opens_int Tryd.underlying3
theorem o2 : Opens Tryd.prog 2 (Kd.int .i64) (fun B x => (Lit.int .i64 x).wf = true) := opens_int Tryd.underlying2
def WF23 (B : Nat) (x : S23) : Prop := ((Lit.int .i64 x.f0).wf = true) ∧ ((Lit.int .i64 x.f1).wf = true) ∧ ((Lit.int .i64 x.f2).wf = true)
theorem o23 : Opens Tryd.prog 23 k23 WF23 :=
  opens_mono (opens_struct Tryd.underlying23 (opensF_cons o2 (by kernel_rfl) (opensF_cons o2 (by kernel_rfl) (opensF_one o2 (by kernel_rfl)) (by kernel_rfl)) (by kernel_rfl)) (by kernel_rfl) _ (fun p => (⟨p.1, p.2.1, p.2.2⟩ : S23)) (fun _ => rfl)) (fun B x h => ⟨h.1, h.2.1, h.2.2⟩)
end Go.Proofs.YtleeifpdgnjbdaaDoor.B
