/- Every constant of package api has its number: the law answers true. No input. -/
import Derived.Test.YtagdicambpdbjaaPApiNamesx2
namespace Go.Proofs.Ytagdicambpdbjaa.Pure
open Go.RowKit Go.Proofs.Ytagdicambpdbjaa.PApiNames Go.Proofs.YtagdicambpdbjaaW.PrintWords Go.Proofs.YtagdicambpdbjaaW.PrintLast

/-- Closed: at 60 rounds. -/
theorem ApiNames : arrearstop_ApiNames.Pure :=
  ⟨60, by decide +kernel⟩

end Go.Proofs.Ytagdicambpdbjaa.Pure
