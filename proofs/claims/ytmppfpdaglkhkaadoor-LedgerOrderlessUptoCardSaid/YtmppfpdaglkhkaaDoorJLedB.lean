/- Plain facts: two like books are alike, a right posting of seven goes through. No condition. -/
import Derived.Test.YtmppfpdaglkhkaaDoorJLedA
import Derived.Test.YtmppfpdaglkhkaaDoorJx3
import Derived.Test.YtmppfpdaglkhkaaDoorJx3
import Derived.Test.YtmppfpdaglkhkaaDoorJOpen
namespace Go.Proofs.YtmppfpdaglkhkaaDoor.J
open Go.RowKit Go.Proofs.YtmppfpdaglkhkaaDoorW.PrintWords Go.Proofs.YtmppfpdaglkhkaaDoorW.PrintLast
set_option linter.unusedVariables false
set_option linter.unusedSimpArgs false
theorem posts_true : arrearslaw8_posts.f = some true := by decide +kernel
set_option maxRecDepth 10000 in
theorem same_true (k : Nat) (hk : 14 ≤ k) (a0 a1 a2 a3 a4 a5 a6 a7 a8 a9 a10 a11 : Int) : arrearslaw8_same.f k a0 a1 a2 a3 a4 a5 a6 a7 a8 a9 a10 a11 a0 a1 a2 a3 a4 a5 a6 a7 a8 a9 a10 a11 = some true := by
  obtain ⟨m, rfl⟩ : ∃ m, k = m + 14 := ⟨k - 14, by omega⟩
  simp [arrearslaw8_same.f, arrearslaw8_same.l0, wrap64]
theorem wf64' {x : Int} (h : (Lit.int .i64 x).wf = true) : ledger_Post.in64 x := by
  simp [Lit.wf, IntKind.min, IntKind.max, IntKind.bits, IntKind.signed] at h
  exact ⟨by omega, by omega⟩
/-- The book of an argument: twelve numbers of 64 bits. -/
theorem bk_of {B : Nat} {x0 : S24} (h : WF24 B x0) : Bk [x0.f0.f0, x0.f0.f1, x0.f0.f2, x0.f0.f3, x0.f0.f4, x0.f0.f5, x0.f0.f6, x0.f0.f7, x0.f0.f8, x0.f0.f9, x0.f0.f10, x0.f0.f11] := by
  unfold WF24 WF22 at h
  obtain ⟨h0, h1, h2, h3, h4, h5, h6, h7, h8, h9, h10, h11⟩ := h
  refine ⟨rfl, fun x hx => ?_⟩
  simp only [List.mem_cons, List.not_mem_nil, or_false] at hx
  rcases hx with rfl | rfl | rfl | rfl | rfl | rfl | rfl | rfl | rfl | rfl | rfl | rfl <;> (apply wf64'; assumption)
theorem es_of {B : Nat} {l : List S43} (h : ∀ x_ ∈ l, WF43 B x_) : Es l := fun e he => wf64' (h e he).2.2
end Go.Proofs.YtmppfpdaglkhkaaDoor.J
