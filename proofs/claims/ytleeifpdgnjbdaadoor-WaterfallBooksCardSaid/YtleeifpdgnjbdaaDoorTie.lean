/-
  DERIVED. GIVEN WITH THE SEED: THE PROGRAM's TIES (one call each: nine closed facts by the kernel) AND EACH ROW's TIE, after the 31st guide's Derived/Test/Toyas{Tie, Card}.lean. No idea stands in it: it is a product of the set-up. Laid BY PROGRAM, IN A SANDBOX (cutbox-door.mjs). By AI agents, Wed Nov 11 2026. No macro, syntax, notation, axiom, sorry.
-/
import Derived.Test.YtleeifpdgnjbdaaDoorRows
import Derived.LaidByTextLater
import Derived.SevenTiedAt
import Derived.LaidSub
import Derived.LaidOnce
namespace Go.Proofs.YtleeifpdgnjbdaaDoor
open Go
set_option maxRecDepth 100000
theorem seatTie1 : Tryd.prog.laidByTextLater [("arrears/waterfall.orders", Rows.laid_arrears_waterfall_orders), ("arrears/ledger.sides", Rows.laid_arrears_ledger_sides)] [.data, .data] true :=
  Program.laidByTextLater_by_one 25 8 19 (by kernel_rfl) (by kernel_rfl) (by kernel_rfl) (by kernel_rfl) (by kernel_rfl) (by kernel_rfl) (fun _ _ => by kernel_rfl)
theorem noOwnUnsafe : Tryd.pinned.checked.prog.headLifts.contains "ownunsafe" = false := by kernel_rfl
theorem tie : Tryd.prog.laidByTextLater [("arrears/waterfall.orders", Rows.laid_arrears_waterfall_orders)] [.data] true :=
  Program.laidByTextLater.sub seatTie1 ["arrears/waterfall.orders"] (by kernel_rfl) (by kernel_rfl)
theorem waterfallAllocates_row_tie : Rows.waterfallAllocatesRow.laidByTextAt .later Tryd.pinned [.data] true :=
  OpenClaim.laidByTextAt_later rfl rfl tie noOwnUnsafe
theorem waterfallPours_row_tie : Rows.waterfallPoursRow.laidByTextAt .later Tryd.pinned [.data] true :=
  OpenClaim.laidByTextAt_later rfl rfl tie noOwnUnsafe
theorem waterfallTwice_row_tie : Rows.waterfallTwiceRow.laidByTextAt .later Tryd.pinned [.data] true :=
  OpenClaim.laidByTextAt_later rfl rfl tie noOwnUnsafe
theorem tie2 : Tryd.prog.laidByTextLater [("arrears/waterfall.orders", Rows.laid_arrears_waterfall_orders), ("arrears/ledger.sides", Rows.laid_arrears_ledger_sides)] [.data, .data] true :=
  Program.laidByTextLater.sub seatTie1 ["arrears/waterfall.orders", "arrears/ledger.sides"] (by kernel_rfl) (by kernel_rfl)
theorem waterfallBooks_row_tie : Rows.waterfallBooksRow.laidByTextAt .later Tryd.pinned [.data, .data] true :=
  OpenClaim.laidByTextAt_later rfl rfl tie2 noOwnUnsafe
theorem waterfallAllocatesUpto_row_tie : Rows.waterfallAllocatesUptoRow.laidByTextAt .later Tryd.pinned [.data] true :=
  OpenClaim.laidByTextAt_later rfl rfl tie noOwnUnsafe
theorem waterfallPoursUpto_row_tie : Rows.waterfallPoursUptoRow.laidByTextAt .later Tryd.pinned [.data] true :=
  OpenClaim.laidByTextAt_later rfl rfl tie noOwnUnsafe
theorem waterfallTwiceUpto_row_tie : Rows.waterfallTwiceUptoRow.laidByTextAt .later Tryd.pinned [.data] true :=
  OpenClaim.laidByTextAt_later rfl rfl tie noOwnUnsafe
theorem waterfallBooksUpto_row_tie : Rows.waterfallBooksUptoRow.laidByTextAt .later Tryd.pinned [.data, .data] true :=
  OpenClaim.laidByTextAt_later rfl rfl tie2 noOwnUnsafe
end Go.Proofs.YtleeifpdgnjbdaaDoor
