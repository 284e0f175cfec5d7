/- What the arguments of this seat's laws read as: each by its type. No condition. -/
import Derived.Test.YtmppfpdaglkhkaaDoorQx0
import Derived.Test.YtmppfpdaglkhkaaDoorOpen
import Derived.KernelRfl
namespace Go.Proofs.YtmppfpdaglkhkaaDoor.Q
open Go.RowKit Go.Proofs.YtmppfpdaglkhkaaDoorW.PrintWords Go.Proofs.YtmppfpdaglkhkaaDoor.Opn
set_option linter.unusedVariables false
set_option maxRecDepth 100000
theorem o2 : Opens Tryd.prog 2 (Kd.int .i64) (fun B x => (Lit.int .i64 x).wf = true) := opens_int Tryd.underlying2
def WF22 (B : Nat) (x : S22) : Prop := ((Lit.int .i64 x.f0).wf = true) ∧ ((Lit.int .i64 x.f1).wf = true) ∧ ((Lit.int .i64 x.f2).wf = true) ∧ ((Lit.int .i64 x.f3).wf = true) ∧ ((Lit.int .i64 x.f4).wf = true) ∧ ((Lit.int .i64 x.f5).wf = true) ∧ ((Lit.int .i64 x.f6).wf = true) ∧ ((Lit.int .i64 x.f7).wf = true) ∧ ((Lit.int .i64 x.f8).wf = true) ∧ ((Lit.int .i64 x.f9).wf = true) ∧ ((Lit.int .i64 x.f10).wf = true) ∧ ((Lit.int .i64 x.f11).wf = true)
theorem o22 : Opens Tryd.prog 22 k22 WF22 :=
  opens_mono (opens_array Tryd.underlying22 (fs := [arrF 2 1 0, arrF 2 1 1, arrF 2 1 2, arrF 2 1 3, arrF 2 1 4, arrF 2 1 5, arrF 2 1 6, arrF 2 1 7, arrF 2 1 8, arrF 2 1 9, arrF 2 1 10, arrF 2 1 11]) (by kernel_rfl) (opensF_cons o2 (by kernel_rfl) (opensF_cons o2 (by kernel_rfl) (opensF_cons o2 (by kernel_rfl) (opensF_cons o2 (by kernel_rfl) (opensF_cons o2 (by kernel_rfl) (opensF_cons o2 (by kernel_rfl) (opensF_cons o2 (by kernel_rfl) (opensF_cons o2 (by kernel_rfl) (opensF_cons o2 (by kernel_rfl) (opensF_cons o2 (by kernel_rfl) (opensF_cons o2 (by kernel_rfl) (opensF_one o2 (by kernel_rfl)) (by kernel_rfl)) (by kernel_rfl)) (by kernel_rfl)) (by kernel_rfl)) (by kernel_rfl)) (by kernel_rfl)) (by kernel_rfl)) (by kernel_rfl)) (by kernel_rfl)) (by kernel_rfl)) (by kernel_rfl)) (by kernel_rfl) _ (fun p => (⟨p.1, p.2.1, p.2.2.1, p.2.2.2.1, p.2.2.2.2.1, p.2.2.2.2.2.1, p.2.2.2.2.2.2.1, p.2.2.2.2.2.2.2.1, p.2.2.2.2.2.2.2.2.1, p.2.2.2.2.2.2.2.2.2.1, p.2.2.2.2.2.2.2.2.2.2.1, p.2.2.2.2.2.2.2.2.2.2.2⟩ : S22)) (fun _ => rfl)) (fun B x h => ⟨h.1, h.2.1, h.2.2.1, h.2.2.2.1, h.2.2.2.2.1, h.2.2.2.2.2.1, h.2.2.2.2.2.2.1, h.2.2.2.2.2.2.2.1, h.2.2.2.2.2.2.2.2.1, h.2.2.2.2.2.2.2.2.2.1, h.2.2.2.2.2.2.2.2.2.2.1, h.2.2.2.2.2.2.2.2.2.2.2⟩)
def WF24 (B : Nat) (x : S24) : Prop := (WF22 B x.f0)
theorem o24 : Opens Tryd.prog 24 k24 WF24 :=
  opens_mono (opens_struct Tryd.underlying24 (opensF_one o22 (by kernel_rfl)) (by kernel_rfl) _ (fun p => (⟨p⟩ : S24)) (fun _ => rfl)) (fun B x h => h)
theorem o3 : Opens Tryd.prog 3 (Kd.int .i64) (fun B x => (Lit.int .i64 x).wf = true) := opens_int Tryd.underlying3
def WF43 (B : Nat) (x : S43) : Prop := ((Lit.int .i64 x.f0).wf = true) ∧ ((Lit.int .i64 x.f1).wf = true) ∧ ((Lit.int .i64 x.f2).wf = true)
theorem o43 : Opens Tryd.prog 43 k43 WF43 :=
  opens_mono (opens_struct Tryd.underlying43 (opensF_cons o3 (by kernel_rfl) (opensF_cons o3 (by kernel_rfl) (opensF_one o2 (by kernel_rfl)) (by kernel_rfl)) (by kernel_rfl)) (by kernel_rfl) _ (fun p => (⟨p.1, p.2.1, p.2.2⟩ : S43)) (fun _ => rfl)) (fun B x h => ⟨h.1, h.2.1, h.2.2⟩)
theorem o32 : Opens Tryd.prog 32 (Kd.slice 43 k43) (fun B xs => (∀ x_ ∈ xs, WF43 B x_) ∧ xs.length * 24 ≤ 140737488351232 ∧ xs.length ≤ B) := opens_slice Tryd.underlying32 o43 (by kernel_rfl)
end Go.Proofs.YtmppfpdaglkhkaaDoor.Q
