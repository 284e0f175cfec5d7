/- What the arguments of this seat's laws read as: each by its type. No condition. -/
import Derived.Test.YtmppfpdaglkhkaaZx0
import Derived.Test.YtmppfpdaglkhkaaOpen
import Derived.KernelRfl
namespace Go.Proofs.Ytmppfpdaglkhkaa.Z
open Go.RowKit Go.Proofs.YtmppfpdaglkhkaaW.PrintWords Go.Proofs.Ytmppfpdaglkhkaa.Opn
set_option linter.unusedVariables false
set_option maxRecDepth 100000
theorem o2 : Opens Try.prog 2 (Kd.int .i64) (fun B x => (Lit.int .i64 x).wf = true) := opens_int Try.underlying2
def WF30 (B : Nat) (x : S30) : Prop := ((Lit.int .i64 x.f0).wf = true) ∧ ((Lit.int .i64 x.f1).wf = true) ∧ ((Lit.int .i64 x.f2).wf = true) ∧ ((Lit.int .i64 x.f3).wf = true) ∧ ((Lit.int .i64 x.f4).wf = true) ∧ ((Lit.int .i64 x.f5).wf = true) ∧ ((Lit.int .i64 x.f6).wf = true) ∧ ((Lit.int .i64 x.f7).wf = true) ∧ ((Lit.int .i64 x.f8).wf = true) ∧ ((Lit.int .i64 x.f9).wf = true) ∧ ((Lit.int .i64 x.f10).wf = true) ∧ ((Lit.int .i64 x.f11).wf = true)
theorem o30 : Opens Try.prog 30 k30 WF30 :=
 opens_mono (opens_array Try.underlying30 (fs:=[arrF 2 1 0,arrF 2 1 1,arrF 2 1 2,arrF 2 1 3,arrF 2 1 4,arrF 2 1 5,arrF 2 1 6,arrF 2 1 7,arrF 2 1 8,arrF 2 1 9,arrF 2 1 10,arrF 2 1 11]) (by kernel_rfl) (opensF_cons o2 (by kernel_rfl) (opensF_cons o2 (by kernel_rfl) (opensF_cons o2 (by kernel_rfl) (opensF_cons o2 (by kernel_rfl) (opensF_cons o2 (by kernel_rfl) (opensF_cons o2 (by kernel_rfl) (opensF_cons o2 (by kernel_rfl) (opensF_cons o2 (by kernel_rfl) (opensF_cons o2 (by kernel_rfl) (opensF_cons o2 (by kernel_rfl) (opensF_cons o2 (by kernel_rfl) (opensF_one o2 (by kernel_rfl)) (by kernel_rfl)) (by kernel_rfl)) (by kernel_rfl)) (by kernel_rfl)) (by kernel_rfl)) (by kernel_rfl)) (by kernel_rfl)) (by kernel_rfl)) (by kernel_rfl)) (by kernel_rfl)) (by kernel_rfl)) (by kernel_rfl) _ (fun p => (⟨p.1,p.2.1,p.2.2.1,p.2.2.2.1,p.2.2.2.2.1,p.2.2.2.2.2.1,p.2.2.2.2.2.2.1,p.2.2.2.2.2.2.2.1,p.2.2.2.2.2.2.2.2.1,p.2.2.2.2.2.2.2.2.2.1,p.2.2.2.2.2.2.2.2.2.2.1,p.2.2.2.2.2.2.2.2.2.2.2⟩ : S30)) (fun _ => rfl)) (fun B x h => ⟨h.1,h.2.1,h.2.2.1,h.2.2.2.1,h.2.2.2.2.1,h.2.2.2.2.2.1,h.2.2.2.2.2.2.1,h.2.2.2.2.2.2.2.1,h.2.2.2.2.2.2.2.2.1,h.2.2.2.2.2.2.2.2.2.1,h.2.2.2.2.2.2.2.2.2.2.1,h.2.2.2.2.2.2.2.2.2.2.2⟩)
def WF32 (B : Nat) (x : S32) : Prop := (WF30 B x.f0)
theorem o32 : Opens Try.prog 32 k32 WF32 :=
 opens_mono (opens_struct Try.underlying32 (opensF_one o30 (by kernel_rfl)) (by kernel_rfl) _ (fun p => (⟨p⟩ : S32)) (fun _ => rfl)) (fun B x h => h)
theorem o29 : Opens Try.prog 29 (Kd.slice 32 k32) (fun B xs => (∀ x_ ∈ xs,WF32 B x_) ∧ xs.length * 96 ≤ 140737488351232 ∧ xs.length ≤ B) := opens_slice Try.underlying29 o32 (by kernel_rfl)
end Go.Proofs.Ytmppfpdaglkhkaa.Z
