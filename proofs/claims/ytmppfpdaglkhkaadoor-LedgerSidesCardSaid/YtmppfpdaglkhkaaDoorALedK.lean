/- Plain facts: the book of an argument. No condition. -/
import Derived.Test.YtmppfpdaglkhkaaDoorALedP
import Derived.Test.YtmppfpdaglkhkaaDoorAOpen
namespace Go.Proofs.YtmppfpdaglkhkaaDoor.A
open Go.RowKit Go.Proofs.YtmppfpdaglkhkaaDoorW.PrintWords Go.Proofs.YtmppfpdaglkhkaaDoorW.PrintLast
set_option linter.unusedVariables false
set_option linter.unusedSimpArgs false
/-- The book of an argument: twelve numbers of 64 bits. -/
theorem bk_of {B : Nat} {x0 : S24} (h : WF24 B x0) : Bk [x0.f0.f0, x0.f0.f1, x0.f0.f2, x0.f0.f3, x0.f0.f4, x0.f0.f5, x0.f0.f6, x0.f0.f7, x0.f0.f8, x0.f0.f9, x0.f0.f10, x0.f0.f11] := by
  unfold WF24 WF22 at h
  obtain ⟨h0, h1, h2, h3, h4, h5, h6, h7, h8, h9, h10, h11⟩ := h
  refine ⟨rfl, fun x hx => ?_⟩
  simp only [List.mem_cons, List.not_mem_nil, or_false] at hx
  rcases hx with rfl | rfl | rfl | rfl | rfl | rfl | rfl | rfl | rfl | rfl | rfl | rfl <;> (apply wf64'; assumption)
end Go.Proofs.YtmppfpdaglkhkaaDoor.A
