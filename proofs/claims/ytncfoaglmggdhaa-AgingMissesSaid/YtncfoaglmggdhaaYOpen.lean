/- What the arguments of this seat's laws read as: each by its type. No condition. -/
import Derived.Test.YtncfoaglmggdhaaYx0
import Derived.Test.YtncfoaglmggdhaaOpen
import Derived.KernelRfl
namespace Go.Proofs.Ytncfoaglmggdhaa.Y
open Go.RowKit Go.Proofs.YtncfoaglmggdhaaW.PrintWords Go.Proofs.Ytncfoaglmggdhaa.Opn
set_option linter.unusedVariables false
set_option maxRecDepth 100000
theorem o3 : Opens Try.prog 3 (Kd.int .i64) (fun B x => (Lit.int .i64 x).wf = true) := opens_int Try.underlying3
theorem o2 : Opens Try.prog 2 (Kd.int .i64) (fun B x => (Lit.int .i64 x).wf = true) := opens_int Try.underlying2
theorem o4 : Opens Try.prog 4 Kd.bool (fun B x => True) := opens_bool Try.underlying4
def WF31 (B : Nat) (x : S31) : Prop := ((Lit.int .i64 x.f0).wf = true) ∧ ((Lit.int .i64 x.f1).wf = true) ∧ ((Lit.int .i64 x.f2).wf = true)
theorem o31 : Opens Try.prog 31 k31 WF31 :=
 opens_mono (opens_struct Try.underlying31 (opensF_cons o3 (by kernel_rfl) (opensF_cons o2 (by kernel_rfl) (opensF_cons o2 (by kernel_rfl) (opensF_one o4 (by kernel_rfl)) (by kernel_rfl)) (by kernel_rfl)) (by kernel_rfl)) (by kernel_rfl) _ (fun p => (⟨p.1,p.2.1,p.2.2.1,p.2.2.2⟩ : S31)) (fun _ => rfl)) (fun B x h => ⟨h.1,h.2.1,h.2.2.1⟩)
theorem o22 : Opens Try.prog 22 (Kd.slice 31 k31) (fun B xs => (∀ x_ ∈ xs,WF31 B x_) ∧ xs.length * 32 ≤ 140737488351232 ∧ xs.length ≤ B) := opens_slice Try.underlying22 o31 (by kernel_rfl)
def WF24 (B : Nat) (x : S24) : Prop := ((Lit.int .i64 x.f0).wf = true) ∧ ((Lit.int .i64 x.f1).wf = true)
theorem o24 : Opens Try.prog 24 k24 WF24 :=
 opens_mono (opens_struct Try.underlying24 (opensF_cons o2 (by kernel_rfl) (opensF_one o2 (by kernel_rfl)) (by kernel_rfl)) (by kernel_rfl) _ (fun p => (⟨p.1,p.2⟩ : S24)) (fun _ => rfl)) (fun B x h => ⟨h.1,h.2⟩)
theorem o41 : Opens Try.prog 41 (Kd.slice 3 (Kd.int .i64)) (fun B xs => (∀ x_ ∈ xs,(Lit.int .i64 x_).wf = true) ∧ xs.length * 8 ≤ 140737488351232 ∧ xs.length ≤ B) := opens_slice Try.underlying41 o3 (by kernel_rfl)
end Go.Proofs.Ytncfoaglmggdhaa.Y
