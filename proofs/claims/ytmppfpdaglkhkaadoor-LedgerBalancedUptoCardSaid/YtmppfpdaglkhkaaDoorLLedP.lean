/- Plain facts: a right posting of seven goes through. No condition. -/
import Derived.Test.YtmppfpdaglkhkaaDoorLLedA
import Derived.Test.YtmppfpdaglkhkaaDoorLx3
namespace Go.Proofs.YtmppfpdaglkhkaaDoor.L
open Go.RowKit Go.Proofs.YtmppfpdaglkhkaaDoorW.PrintWords Go.Proofs.YtmppfpdaglkhkaaDoorW.PrintLast
set_option linter.unusedVariables false
set_option linter.unusedSimpArgs false
theorem posts_true : arrearslaw8_posts.f = some true := by decide +kernel
theorem w64 {x : Int} (h0 : -9223372036854775808 ≤ x) (h1 : x ≤ 9223372036854775807) : wrap64 x = x := by unfold wrap64; omega
theorem wf64' {x : Int} (h : (Lit.int .i64 x).wf = true) : ledger_Post.in64 x := by
  simp [Lit.wf, IntKind.min, IntKind.max, IntKind.bits, IntKind.signed] at h
  exact ⟨by omega, by omega⟩
end Go.Proofs.YtmppfpdaglkhkaaDoor.L
