/- What the arguments of this seat's laws read as: each by its type. No condition. -/
import Derived.Test.YtmppfpdaglkhkaaVx0
import Derived.Test.YtmppfpdaglkhkaaOpen
import Derived.KernelRfl
namespace Go.Proofs.Ytmppfpdaglkhkaa.V
open Go.RowKit Go.Proofs.YtmppfpdaglkhkaaW.PrintWords Go.Proofs.Ytmppfpdaglkhkaa.Opn
set_option linter.unusedVariables false
set_option maxRecDepth 100000
theorem o3 : Opens Try.prog 3 (Kd.int .i64) (fun B x => (Lit.int .i64 x).wf = true) := opens_int Try.underlying3
theorem o2 : Opens Try.prog 2 (Kd.int .i64) (fun B x => (Lit.int .i64 x).wf = true) := opens_int Try.underlying2
def WF26 (B : Nat) (x : S26) : Prop := ((Lit.int .i64 x.f0).wf = true) ∧ ((Lit.int .i64 x.f1).wf = true) ∧ ((Lit.int .i64 x.f2).wf = true)
theorem o26 : Opens Try.prog 26 k26 WF26 :=
  opens_mono (opens_struct Try.underlying26 (opensF_cons o3 (by kernel_rfl) (opensF_cons o3 (by kernel_rfl) (opensF_one o2 (by kernel_rfl)) (by kernel_rfl)) (by kernel_rfl)) (by kernel_rfl) _ (fun p => (⟨p.1, p.2.1, p.2.2⟩ : S26)) (fun _ => rfl)) (fun B x h => ⟨h.1, h.2.1, h.2.2⟩)
theorem o22 : Opens Try.prog 22 (Kd.slice 26 k26) (fun B xs => (∀ x_ ∈ xs, WF26 B x_) ∧ xs.length * 24 ≤ 140737488351232 ∧ xs.length ≤ B) := opens_slice Try.underlying22 o26 (by kernel_rfl)
end Go.Proofs.Ytmppfpdaglkhkaa.V
