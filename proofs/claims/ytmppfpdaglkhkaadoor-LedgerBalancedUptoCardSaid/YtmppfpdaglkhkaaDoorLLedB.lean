/- Plain facts: two like books are alike. No condition. -/
import Derived.Test.YtmppfpdaglkhkaaDoorLLedP
import Derived.Test.YtmppfpdaglkhkaaDoorLx3
namespace Go.Proofs.YtmppfpdaglkhkaaDoor.L
open Go.RowKit Go.Proofs.YtmppfpdaglkhkaaDoorW.PrintWords Go.Proofs.YtmppfpdaglkhkaaDoorW.PrintLast
set_option linter.unusedVariables false
set_option linter.unusedSimpArgs false
set_option maxRecDepth 10000 in
theorem same_true (k : Nat) (hk : 14 ≤ k) (a0 a1 a2 a3 a4 a5 a6 a7 a8 a9 a10 a11 : Int) : arrearslaw8_same.f k a0 a1 a2 a3 a4 a5 a6 a7 a8 a9 a10 a11 a0 a1 a2 a3 a4 a5 a6 a7 a8 a9 a10 a11 = some true := by
  obtain ⟨m, rfl⟩ : ∃ m, k = m + 14 := ⟨k - 14, by omega⟩
  simp [arrearslaw8_same.f, arrearslaw8_same.l0, wrap64]
end Go.Proofs.YtmppfpdaglkhkaaDoor.L
