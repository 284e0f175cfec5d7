/- What the arguments of this seat's laws read as: each by its type. No condition. -/
import Derived.Test.YtmppfpdaglkhkaaDoorLx0
import Derived.Test.YtmppfpdaglkhkaaDoorOpen
import Derived.KernelRfl
namespace Go.Proofs.YtmppfpdaglkhkaaDoor.L
open Go.RowKit Go.Proofs.YtmppfpdaglkhkaaDoorW.PrintWords Go.Proofs.YtmppfpdaglkhkaaDoor.Opn
set_option linter.unusedVariables false
set_option maxRecDepth 100000
theorem o3 : Opens Tryd.prog 3 (Kd.int .i64) (fun B x => (Lit.int .i64 x).wf = true) := opens_int Tryd.underlying3
theorem o2 : Opens Tryd.prog 2 (Kd.int .i64) (fun B x => (Lit.int .i64 x).wf = true) := opens_int Tryd.underlying2
def WF43 (B : Nat) (x : S43) : Prop := ((Lit.int .i64 x.f0).wf = true) ∧ ((Lit.int .i64 x.f1).wf = true) ∧ ((Lit.int .i64 x.f2).wf = true)
theorem o43 : Opens Tryd.prog 43 k43 WF43 :=
  opens_mono (opens_struct Tryd.underlying43 (opensF_cons o3 (by kernel_rfl) (opensF_cons o3 (by kernel_rfl) (opensF_one o2 (by kernel_rfl)) (by kernel_rfl)) (by kernel_rfl)) (by kernel_rfl) _ (fun p => (⟨p.1, p.2.1, p.2.2⟩ : S43)) (fun _ => rfl)) (fun B x h => ⟨h.1, h.2.1, h.2.2⟩)
theorem o32 : Opens Tryd.prog 32 (Kd.slice 43 k43) (fun B xs => (∀ x_ ∈ xs, WF43 B x_) ∧ xs.length * 24 ≤ 140737488351232 ∧ xs.length ≤ B) := opens_slice Tryd.underlying32 o43 (by kernel_rfl)
theorem o54 : Opens Tryd.prog 54 (Kd.slice 32 (Kd.slice 43 k43)) (fun B xs => (∀ x_ ∈ xs, (∀ x__ ∈ x_, WF43 B x__) ∧ x_.length * 24 ≤ 140737488351232 ∧ x_.length ≤ B) ∧ xs.length * 24 ≤ 140737488351232 ∧ xs.length ≤ B) := opens_slice Tryd.underlying54 o32 (by kernel_rfl)
end Go.Proofs.YtmppfpdaglkhkaaDoor.L
