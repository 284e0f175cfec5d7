/- Trial of any book is the document's. No condition beyond the lists' bulk. -/
import Derived.Test.YtmppfpdaglkhkaaTx2
import Derived.Test.YtmppfpdaglkhkaaTLedT
import Derived.Test.YtmppfpdaglkhkaaTOpen
namespace Go.Proofs.Ytmppfpdaglkhkaa.T
open Go.RowKit Go.Proofs.YtmppfpdaglkhkaaW.PrintWords Go.Proofs.YtmppfpdaglkhkaaW.PrintLast
set_option linter.unusedVariables false
set_option linter.unusedSimpArgs false

def LedgerTrials_Pure : Prop := ∀ (B0 : Nat) (x0 : S32), (WF32 B0 x0) → ∃ k, arrearslaw8_LedgerTrials.f k x0.f0.f0 x0.f0.f1 x0.f0.f2 x0.f0.f3 x0.f0.f4 x0.f0.f5 x0.f0.f6 x0.f0.f7 x0.f0.f8 x0.f0.f9 x0.f0.f10 x0.f0.f11 = some true
theorem LedgerTrials_pure : LedgerTrials_Pure := by
  intro B0 x0 h
  have hb : Bk [x0.f0.f0, x0.f0.f1, x0.f0.f2, x0.f0.f3, x0.f0.f4, x0.f0.f5, x0.f0.f6, x0.f0.f7, x0.f0.f8, x0.f0.f9, x0.f0.f10, x0.f0.f11] := by
    unfold WF32 WF30 at h
    obtain ⟨h0, h1, h2, h3, h4, h5, h6, h7, h8, h9, h10, h11⟩ := h
    refine ⟨rfl, fun x hx => ?_⟩
    have wf : ∀ {x : Int}, (Lit.int .i64 x).wf = true → Wd.in64 x := fun {x} h => by
      simp [Lit.wf, IntKind.min, IntKind.max, IntKind.bits, IntKind.signed] at h
      exact ⟨by omega, by omega⟩
    simp only [List.mem_cons, List.not_mem_nil, or_false] at hx
    rcases hx with rfl | rfl | rfl | rfl | rfl | rfl | rfl | rfl | rfl | rfl | rfl | rfl <;> (apply wf; assumption)
  refine ⟨40, ?_⟩
  unfold arrearslaw8_LedgerTrials.f
  rw [trial_true _ _ _ _ _ _ _ _ _ _ _ _ hb 40 (by omega), ref_true _ _ _ _ _ _ _ _ _ _ _ _ hb 40 (by omega)]
  simp
end Go.Proofs.Ytmppfpdaglkhkaa.T
