/- What the rows' premise on the package's tables gives: their cells. And a world for the witness. -/
import Derived.Test.YtmppfpdaglkhkaaDoorRows
import Derived.Test.YtmppfpdaglkhkaaDoorOpen
import Derived.Test.YtmppfpdaglkhkaaDoorQLaid
import Derived.Deep.DeepHandedRow
import Derived.KernelRfl
namespace Go.Proofs.YtmppfpdaglkhkaaDoor.Q
open Go.ChangeShapes Go.WideShapes Go.ChangeAt Go.RowKit Go.Proofs.YtmppfpdaglkhkaaDoor.Opn
set_option linter.unusedVariables false
set_option maxRecDepth 100000
theorem gn_0 : Tryd.prog.globalNamed "arrears/ledger.sides" = some 0 := by kernel_rfl
theorem gt_0 : (Tryd.prog.globals[0]?).map (·.type) = some 63 := by kernel_rfl
theorem laid_of {W : World} (h : laidMetH Tryd.prog [("arrears/ledger.sides", Rows.laid_arrears_ledger_sides)] W) : Laid W := by
  have h' : laidMet Tryd.prog [("arrears/ledger.sides", Rows.laid_arrears_ledger_sides)] W := h
  obtain ⟨ps, ⟨g0, t0, cs0, fu0, p0, q0, hg0, ht0, hv0, hd0, _, _⟩, _⟩ := h'
  obtain rfl := Option.some.inj (gn_0.symm.trans hg0)
  obtain rfl := Option.some.inj (gt_0.symm.trans ht0)
  have hf0 := flat_inj 4 63 (by kernel_rfl) _ W W 0 0 _ (fun _ => true) _ true fu0 8 cs0.toList cells_0 Rows.laid_arrears_ledger_sides p0 [] hd0 (by kernel_rfl)
  exact ⟨fun i v hv => by rw [World.var?_cell gn_0 hv0 i, ← Array.getElem?_toList, hf0]; exact hv⟩
noncomputable def laidWorld (os : Os) : World :=
  { World.holding Tryd.prog os ⟨#[], #[], []⟩ with heap := ((World.holding Tryd.prog os ⟨#[], #[], []⟩).heap.modify 0 fun
      | .cells _ t frozen => .cells #[.int .i64 1, .int .i64 1, .int .i64 1, .int .i64 1, .int .i64 (-1), .int .i64 (-1), .int .i64 (-1), .int .i64 (-1), .int .i64 (-1), .int .i64 1, .int .i64 (-1), .int .i64 1] t frozen
      | o => o) }
end Go.Proofs.YtmppfpdaglkhkaaDoor.Q
