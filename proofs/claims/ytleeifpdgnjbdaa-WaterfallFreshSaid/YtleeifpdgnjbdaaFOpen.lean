/- What the arguments of this seat's laws read as: each by its type. No condition. -/
import Derived.Test.YtleeifpdgnjbdaaFx0
import Derived.Test.YtleeifpdgnjbdaaOpen
import Derived.KernelRfl
namespace Go.Proofs.Ytleeifpdgnjbdaa.F
open Go.RowKit Go.Proofs.YtleeifpdgnjbdaaW.PrintWords Go.Proofs.Ytleeifpdgnjbdaa.Opn
set_option linter.unusedVariables false
set_option maxRecDepth 100000
theorem o2 : Opens Try.prog 2 (Kd.int .i64) (fun B x => (Lit.int .i64 x).wf = true) := opens_int Try.underlying2
def WF23 (B : Nat) (x : S23) : Prop := ((Lit.int .i64 x.f0).wf = true) ∧ ((Lit.int .i64 x.f1).wf = true) ∧ ((Lit.int .i64 x.f2).wf = true) ∧ ((Lit.int .i64 x.f3).wf = true) ∧ ((Lit.int .i64 x.f4).wf = true)
theorem o23 : Opens Try.prog 23 k23 WF23 :=
  opens_mono (opens_struct Try.underlying23 (opensF_cons o2 (by kernel_rfl) (opensF_cons o2 (by kernel_rfl) (opensF_cons o2 (by kernel_rfl) (opensF_cons o2 (by kernel_rfl) (opensF_one o2 (by kernel_rfl)) (by kernel_rfl)) (by kernel_rfl)) (by kernel_rfl)) (by kernel_rfl)) (by kernel_rfl) _ (fun p => (⟨p.1, p.2.1, p.2.2.1, p.2.2.2.1, p.2.2.2.2⟩ : S23)) (fun _ => rfl)) (fun B x h => ⟨h.1, h.2.1, h.2.2.1, h.2.2.2.1, h.2.2.2.2⟩)
end Go.Proofs.Ytleeifpdgnjbdaa.F
