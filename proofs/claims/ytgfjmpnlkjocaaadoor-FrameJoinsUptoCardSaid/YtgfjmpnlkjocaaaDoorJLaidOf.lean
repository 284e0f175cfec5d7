/- What the rows' premise on the package's tables gives: their cells. And a world for the witness. -/
import Derived.Test.YtgfjmpnlkjocaaaDoorRows
import Derived.Test.YtgfjmpnlkjocaaaDoorOpen
import Derived.Test.YtgfjmpnlkjocaaaDoorJLaid
import Derived.Deep.DeepHandedRow
import Derived.KernelRfl
namespace Go.Proofs.YtgfjmpnlkjocaaaDoor.J
open Go.ChangeShapes Go.WideShapes Go.ChangeAt Go.RowKit Go.Proofs.YtgfjmpnlkjocaaaDoor.Opn
set_option linter.unusedVariables false
set_option maxRecDepth 100000
theorem gn_0 : Tryd.prog.globalNamed "arrears/frame.nibbles" = some 0 := by kernel_rfl
theorem gt_0 : (Tryd.prog.globals[0]?).map (·.type) = some 53 := by kernel_rfl
theorem laid_of {W : World} (h : laidMetH Tryd.prog [("arrears/frame.nibbles", Rows.laid_arrears_frame_nibbles)] W) : Laid W := by
  have h' : laidMet Tryd.prog [("arrears/frame.nibbles", Rows.laid_arrears_frame_nibbles)] W := h
  obtain ⟨ps, ⟨g0, t0, cs0, fu0, p0, q0, hg0, ht0, hv0, hd0, _, _⟩, _⟩ := h'
  obtain rfl := Option.some.inj (gn_0.symm.trans hg0)
  obtain rfl := Option.some.inj (gt_0.symm.trans ht0)
  have hf0 := flat_inj 4 53 (by kernel_rfl) _ W W 0 0 _ (fun _ => true) _ true fu0 8 cs0.toList cells_0 Rows.laid_arrears_frame_nibbles p0 [] hd0 (by kernel_rfl)
  exact ⟨fun i v hv => by rw [World.var?_cell gn_0 hv0 i, ← Array.getElem?_toList, hf0]; exact hv⟩
noncomputable def laidWorld (os : Os) : World :=
  { World.holding Tryd.prog os ⟨#[], #[], []⟩ with heap := ((World.holding Tryd.prog os ⟨#[], #[], []⟩).heap.modify 0 fun
      | .cells _ t frozen => .cells #[.int .u32 0, .int .u32 498536548, .int .u32 997073096, .int .u32 651767980, .int .u32 1994146192, .int .u32 1802195444, .int .u32 1303535960, .int .u32 1342533948, .int .u32 3988292384, .int .u32 4027552580, .int .u32 3604390888, .int .u32 3412177804, .int .u32 2607071920, .int .u32 2262029012, .int .u32 2685067896, .int .u32 3183342108] t frozen
      | o => o) }
end Go.Proofs.YtgfjmpnlkjocaaaDoor.J
