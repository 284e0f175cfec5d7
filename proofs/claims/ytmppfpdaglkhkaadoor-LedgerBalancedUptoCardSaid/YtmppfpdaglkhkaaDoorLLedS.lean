/- Plain facts: the entries of an argument. No condition. -/
import Derived.Test.YtmppfpdaglkhkaaDoorLLedP
import Derived.Test.YtmppfpdaglkhkaaDoorLOpen
namespace Go.Proofs.YtmppfpdaglkhkaaDoor.L
open Go.RowKit Go.Proofs.YtmppfpdaglkhkaaDoorW.PrintWords Go.Proofs.YtmppfpdaglkhkaaDoorW.PrintLast
set_option linter.unusedVariables false
set_option linter.unusedSimpArgs false
theorem es_of {B : Nat} {l : List S43} (h : ∀ x_ ∈ l, WF43 B x_) : Es l := fun e he => wf64' (h e he).2.2
end Go.Proofs.YtmppfpdaglkhkaaDoor.L
