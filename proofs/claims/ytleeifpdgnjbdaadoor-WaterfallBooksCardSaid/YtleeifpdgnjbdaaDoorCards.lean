/-
  DERIVED. GIVEN WITH THE SEED: THE CARDS: each row of YtleeifpdgnjbdaaDoorRows.lean that lists a variable, with what it lists TIED to the program's text (the seventh form; the later family's looks); each row that meets fmt, with fmt's text TOLD by the authors' own Lean function (tested against real Go, not proved from fmt's source: count such statements apart). THE CARD IS WHAT COUNTS. Prove the row's statement (the work); the ties are given (YtleeifpdgnjbdaaDoorTie.lean); close each card by the builder's one call (the guide's Derived/Test/ToyasCard.lean, 'card_holds'). Laid BY PROGRAM, IN A SANDBOX (cutbox-door.mjs). By AI agents, Wed Nov 11 2026. No macro, syntax, notation, axiom, sorry.
-/
import Derived.Test.YtleeifpdgnjbdaaDoorRows
import GoSem.ClaimSeven
namespace Go.Proofs.YtleeifpdgnjbdaaDoor
namespace Rows

/-- THE TIED CARD OF 'arrearslaw9.WaterfallAllocates'. -/
def waterfallAllocatesCard : Claim7 := { stood := { row := waterfallAllocatesRow, standIns := [], harness := (true, "ad52b4e92c2d1c21b11534f4359f07f5c3ad8eadf9dd485d3753be78dd7f05c5"), looks := false }, kinds := [], alts := [], laidByText := true, laidKinds := [.data], laidTests := true, laidLooks := .later }
def WaterfallAllocatesCardSaid : Prop := Claim7.holds Tryd.pinned (.plain (OpenSpec.ofChange waterfallAllocatesSpec)) waterfallAllocatesCard

/-- THE TIED CARD OF 'arrearslaw9.WaterfallPours'. -/
def waterfallPoursCard : Claim7 := { stood := { row := waterfallPoursRow, standIns := [], harness := (true, "ad52b4e92c2d1c21b11534f4359f07f5c3ad8eadf9dd485d3753be78dd7f05c5"), looks := false }, kinds := [], alts := [], laidByText := true, laidKinds := [.data], laidTests := true, laidLooks := .later }
def WaterfallPoursCardSaid : Prop := Claim7.holds Tryd.pinned (.plain (OpenSpec.ofChange waterfallPoursSpec)) waterfallPoursCard

/-- THE TIED CARD OF 'arrearslaw9.WaterfallTwice'. -/
def waterfallTwiceCard : Claim7 := { stood := { row := waterfallTwiceRow, standIns := [], harness := (true, "ad52b4e92c2d1c21b11534f4359f07f5c3ad8eadf9dd485d3753be78dd7f05c5"), looks := false }, kinds := [], alts := [], laidByText := true, laidKinds := [.data], laidTests := true, laidLooks := .later }
def WaterfallTwiceCardSaid : Prop := Claim7.holds Tryd.pinned (.plain (OpenSpec.ofChange waterfallTwiceSpec)) waterfallTwiceCard

/-- THE TIED CARD OF 'arrearslaw9.WaterfallBooks'. -/
def waterfallBooksCard : Claim7 := { stood := { row := waterfallBooksRow, standIns := [], harness := (true, "ad52b4e92c2d1c21b11534f4359f07f5c3ad8eadf9dd485d3753be78dd7f05c5"), looks := false }, kinds := [], alts := [], laidByText := true, laidKinds := [.data, .data], laidTests := true, laidLooks := .later }
def WaterfallBooksCardSaid : Prop := Claim7.holds Tryd.pinned (.plain (OpenSpec.ofChange waterfallBooksSpec)) waterfallBooksCard

/-- THE SECOND FORM's CARD OF 'arrearslaw9.WaterfallAllocates'. -/
def waterfallAllocatesUptoCard : Claim7 := { stood := { row := waterfallAllocatesUptoRow, standIns := [], harness := (true, "ad52b4e92c2d1c21b11534f4359f07f5c3ad8eadf9dd485d3753be78dd7f05c5"), looks := false }, kinds := [], alts := [], laidByText := true, laidKinds := [.data], laidTests := true, laidLooks := .later }
def WaterfallAllocatesUptoCardSaid : Prop := Claim7.holds Tryd.pinned (.plain (OpenSpec.upto waterfallAllocatesSpec)) waterfallAllocatesUptoCard

/-- THE SECOND FORM's CARD OF 'arrearslaw9.WaterfallPours'. -/
def waterfallPoursUptoCard : Claim7 := { stood := { row := waterfallPoursUptoRow, standIns := [], harness := (true, "ad52b4e92c2d1c21b11534f4359f07f5c3ad8eadf9dd485d3753be78dd7f05c5"), looks := false }, kinds := [], alts := [], laidByText := true, laidKinds := [.data], laidTests := true, laidLooks := .later }
def WaterfallPoursUptoCardSaid : Prop := Claim7.holds Tryd.pinned (.plain (OpenSpec.upto waterfallPoursSpec)) waterfallPoursUptoCard

/-- THE SECOND FORM's CARD OF 'arrearslaw9.WaterfallTwice'. -/
def waterfallTwiceUptoCard : Claim7 := { stood := { row := waterfallTwiceUptoRow, standIns := [], harness := (true, "ad52b4e92c2d1c21b11534f4359f07f5c3ad8eadf9dd485d3753be78dd7f05c5"), looks := false }, kinds := [], alts := [], laidByText := true, laidKinds := [.data], laidTests := true, laidLooks := .later }
def WaterfallTwiceUptoCardSaid : Prop := Claim7.holds Tryd.pinned (.plain (OpenSpec.upto waterfallTwiceSpec)) waterfallTwiceUptoCard

/-- THE SECOND FORM's CARD OF 'arrearslaw9.WaterfallBooks'. -/
def waterfallBooksUptoCard : Claim7 := { stood := { row := waterfallBooksUptoRow, standIns := [], harness := (true, "ad52b4e92c2d1c21b11534f4359f07f5c3ad8eadf9dd485d3753be78dd7f05c5"), looks := false }, kinds := [], alts := [], laidByText := true, laidKinds := [.data, .data], laidTests := true, laidLooks := .later }
def WaterfallBooksUptoCardSaid : Prop := Claim7.holds Tryd.pinned (.plain (OpenSpec.upto waterfallBooksSpec)) waterfallBooksUptoCard
end Rows
end Go.Proofs.YtleeifpdgnjbdaaDoor
