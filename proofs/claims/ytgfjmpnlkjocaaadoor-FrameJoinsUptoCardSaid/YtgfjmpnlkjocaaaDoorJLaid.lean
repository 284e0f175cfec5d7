/- The package's tables: what their cells hold when the law is called; a call that makes new memory leaves them. -/
import Derived.Test.YtgfjmpnlkjocaaaDoorProg
import Derived.Test.YtgfjmpnlkjocaaaDoorWWords
namespace Go.Proofs.YtgfjmpnlkjocaaaDoor.J
open Go.RowKit
def cells_0 : List Value := [.int .u32 0, .int .u32 498536548, .int .u32 997073096, .int .u32 651767980, .int .u32 1994146192, .int .u32 1802195444, .int .u32 1303535960, .int .u32 1342533948, .int .u32 3988292384, .int .u32 4027552580, .int .u32 3604390888, .int .u32 3412177804, .int .u32 2607071920, .int .u32 2262029012, .int .u32 2685067896, .int .u32 3183342108]
/-- The tables hold what the package's text lays. -/
structure Laid (w : World) : Prop where mk ::
  at0 : ∀ (i : Nat) (v : Value), cells_0[i]? = some v → w.cell? ⟨0, i, none⟩ = some v
theorem laid_at {w0 w : World} (h : Laid w0) (hb : Below w0.heap.size w0 w) : Laid w :=
  ⟨fun i v hv => (hb.cell (World.block_lt_of_cell? w0 _ (h.at0 i v hv))).trans (h.at0 i v hv)⟩
end Go.Proofs.YtgfjmpnlkjocaaaDoor.J
