/- The package's tables: what their cells hold when the law is called; a call that makes new memory leaves them. -/
import Derived.Test.YtmppfpdaglkhkaaDoorProg
import Derived.Test.YtmppfpdaglkhkaaDoorWWords
namespace Go.Proofs.YtmppfpdaglkhkaaDoor.Q
open Go.RowKit
def cells_0 : List Value := [.int .i64 1, .int .i64 1, .int .i64 1, .int .i64 1, .int .i64 (-1), .int .i64 (-1), .int .i64 (-1), .int .i64 (-1), .int .i64 (-1), .int .i64 1, .int .i64 (-1), .int .i64 1]
/-- The tables hold what the package's text lays. -/
structure Laid (w : World) : Prop where mk ::
  at0 : ∀ (i : Nat) (v : Value), cells_0[i]? = some v → w.cell? ⟨0, i, none⟩ = some v
theorem laid_at {w0 w : World} (h : Laid w0) (hb : Below w0.heap.size w0 w) : Laid w :=
  ⟨fun i v hv => (hb.cell (World.block_lt_of_cell? w0 _ (h.at0 i v hv))).trans (h.at0 i v hv)⟩
end Go.Proofs.YtmppfpdaglkhkaaDoor.Q
