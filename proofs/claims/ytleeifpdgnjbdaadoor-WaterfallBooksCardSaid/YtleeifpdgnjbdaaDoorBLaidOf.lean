/- What the rows' premise on the package's tables gives: their cells. And a world for the witness. -/
import Derived.Test.YtleeifpdgnjbdaaDoorRows
import Derived.Test.YtleeifpdgnjbdaaDoorOpen
import Derived.Test.YtleeifpdgnjbdaaDoorBLaid
import Derived.Deep.DeepHandedRow
import Derived.KernelRfl
namespace Go.Proofs.YtleeifpdgnjbdaaDoor.B
open Go.ChangeShapes Go.WideShapes Go.ChangeAt Go.RowKit Go.Proofs.YtleeifpdgnjbdaaDoor.Opn
set_option linter.unusedVariables false
set_option maxRecDepth 100000
theorem gn_0 : Tryd.prog.globalNamed "arrears/waterfall.orders" = some 0 := by kernel_rfl
theorem gt_0 : (Tryd.prog.globals[0]?).map (·.type) = some 46 := by kernel_rfl
theorem gn_1 : Tryd.prog.globalNamed "arrears/ledger.sides" = some 1 := by kernel_rfl
theorem gt_1 : (Tryd.prog.globals[1]?).map (·.type) = some 67 := by kernel_rfl
theorem laid_of {W : World} (h : laidMetH Tryd.prog [("arrears/waterfall.orders", Rows.laid_arrears_waterfall_orders), ("arrears/ledger.sides", Rows.laid_arrears_ledger_sides)] W) : Laid W := by
  have h' : laidMet Tryd.prog [("arrears/waterfall.orders", Rows.laid_arrears_waterfall_orders), ("arrears/ledger.sides", Rows.laid_arrears_ledger_sides)] W := h
  obtain ⟨ps, ⟨g0, t0, cs0, fu0, p0, q0, hg0, ht0, hv0, hd0, ⟨g1, t1, cs1, fu1, p1, q1, hg1, ht1, hv1, hd1, _, _⟩, _⟩, _⟩ := h'
  obtain rfl := Option.some.inj (gn_0.symm.trans hg0)
  obtain rfl := Option.some.inj (gt_0.symm.trans ht0)
  have hf0 := flat_inj 4 46 (by kernel_rfl) _ W W 0 0 _ (fun _ => true) _ true fu0 8 cs0.toList cells_0 Rows.laid_arrears_waterfall_orders p0 [] hd0 (by kernel_rfl)
  obtain rfl := Option.some.inj (gn_1.symm.trans hg1)
  obtain rfl := Option.some.inj (gt_1.symm.trans ht1)
  have hf1 := flat_inj 4 67 (by kernel_rfl) _ W W 0 0 _ (fun _ => true) _ true fu1 8 cs1.toList cells_1 Rows.laid_arrears_ledger_sides p1 [] hd1 (by kernel_rfl)
  exact ⟨fun i v hv => by rw [World.var?_cell gn_0 hv0 i, ← Array.getElem?_toList, hf0]; exact hv, fun i v hv => by rw [World.var?_cell gn_1 hv1 i, ← Array.getElem?_toList, hf1]; exact hv⟩
noncomputable def laidWorld (os : Os) : World :=
  { World.holding Tryd.prog os ⟨#[], #[], []⟩ with heap := (((World.holding Tryd.prog os ⟨#[], #[], []⟩).heap.modify 0 fun
      | .cells _ t frozen => .cells #[.int .i64 3, .int .i64 2, .int .i64 1, .int .i64 3, .int .i64 1, .int .i64 2, .int .i64 2, .int .i64 3, .int .i64 1, .int .i64 2, .int .i64 1, .int .i64 3, .int .i64 1, .int .i64 3, .int .i64 2, .int .i64 1, .int .i64 2, .int .i64 3] t frozen
      | o => o).modify 1 fun
      | .cells _ t frozen => .cells #[.int .i64 1, .int .i64 1, .int .i64 1, .int .i64 1, .int .i64 (-1), .int .i64 (-1), .int .i64 (-1), .int .i64 (-1), .int .i64 (-1), .int .i64 1, .int .i64 (-1), .int .i64 1] t frozen
      | o => o) }
end Go.Proofs.YtleeifpdgnjbdaaDoor.B
