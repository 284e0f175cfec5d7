/-
  DERIVED. GIVEN WITH THE SEED: THE CARDS: each row of YtgfjmpnlkjocaaaDoorRows.lean that lists a variable, with what it lists TIED to the program's text (the seventh form; the later family's looks); each row that meets fmt, with fmt's text TOLD by the authors' own Lean function (tested against real Go, not proved from fmt's source: count such statements apart). THE CARD IS WHAT COUNTS. Prove the row's statement (the work); the ties are given (YtgfjmpnlkjocaaaDoorTie.lean); close each card by the builder's one call (the guide's Derived/Test/ToyasCard.lean, 'card_holds'). Laid BY PROGRAM, IN A SANDBOX (cutbox-door.mjs). By AI agents, Wed Nov 11 2026. No macro, syntax, notation, axiom, sorry.
-/
import Derived.Test.YtgfjmpnlkjocaaaDoorRows
import GoSem.ClaimSeven
namespace Go.Proofs.YtgfjmpnlkjocaaaDoor
namespace Rows

/-- THE TIED CARD OF 'arrearslaw6.FrameSums'. -/
def frameSumsCard : Claim7 := { stood := { row := frameSumsRow, standIns := [], harness := (true, "c4ec6f1393220ac5ba1e617cfb24d8f543b01f4fa9e8413dd5950c9953dbe595"), looks := false }, kinds := [], alts := [], laidByText := true, laidKinds := [.data], laidTests := true, laidLooks := .later }
def FrameSumsCardSaid : Prop := Claim7.holds Tryd.pinned (.plain (OpenSpec.ofChange frameSumsSpec)) frameSumsCard

/-- THE TIED CARD OF 'arrearslaw6.FrameJoins'. -/
def frameJoinsCard : Claim7 := { stood := { row := frameJoinsRow, standIns := [], harness := (true, "c4ec6f1393220ac5ba1e617cfb24d8f543b01f4fa9e8413dd5950c9953dbe595"), looks := false }, kinds := [], alts := [], laidByText := true, laidKinds := [.data], laidTests := true, laidLooks := .later }
def FrameJoinsCardSaid : Prop := Claim7.holds Tryd.pinned (.plain (OpenSpec.ofChange frameJoinsSpec)) frameJoinsCard

/-- THE TIED CARD OF 'arrearslaw6.FrameDecodes'. -/
def frameDecodesCard : Claim7 := { stood := { row := frameDecodesRow, standIns := [], harness := (true, "c4ec6f1393220ac5ba1e617cfb24d8f543b01f4fa9e8413dd5950c9953dbe595"), looks := false }, kinds := [], alts := [], laidByText := true, laidKinds := [.data], laidTests := true, laidLooks := .later }
def FrameDecodesCardSaid : Prop := Claim7.holds Tryd.pinned (.plain (OpenSpec.ofChange frameDecodesSpec)) frameDecodesCard

/-- THE TIED CARD OF 'arrearslaw6.FrameScans'. -/
def frameScansCard : Claim7 := { stood := { row := frameScansRow, standIns := [], harness := (true, "c4ec6f1393220ac5ba1e617cfb24d8f543b01f4fa9e8413dd5950c9953dbe595"), looks := false }, kinds := [], alts := [], laidByText := true, laidKinds := [.data], laidTests := true, laidLooks := .later }
def FrameScansCardSaid : Prop := Claim7.holds Tryd.pinned (.plain (OpenSpec.ofChange frameScansSpec)) frameScansCard

/-- THE TIED CARD OF 'arrearslaw6.FrameGoesAgain'. -/
def frameGoesAgainCard : Claim7 := { stood := { row := frameGoesAgainRow, standIns := [], harness := (true, "c4ec6f1393220ac5ba1e617cfb24d8f543b01f4fa9e8413dd5950c9953dbe595"), looks := false }, kinds := [], alts := [], laidByText := true, laidKinds := [.data], laidTests := true, laidLooks := .later }
def FrameGoesAgainCardSaid : Prop := Claim7.holds Tryd.pinned (.plain (OpenSpec.ofChange frameGoesAgainSpec)) frameGoesAgainCard

/-- THE TIED CARD OF 'arrearslaw6.FrameCutAgain'. -/
def frameCutAgainCard : Claim7 := { stood := { row := frameCutAgainRow, standIns := [], harness := (true, "c4ec6f1393220ac5ba1e617cfb24d8f543b01f4fa9e8413dd5950c9953dbe595"), looks := false }, kinds := [], alts := [], laidByText := true, laidKinds := [.data], laidTests := true, laidLooks := .later }
def FrameCutAgainCardSaid : Prop := Claim7.holds Tryd.pinned (.plain (OpenSpec.ofChange frameCutAgainSpec)) frameCutAgainCard

/-- THE TIED CARD OF 'arrearslaw6.FrameSpoilt'. -/
def frameSpoiltCard : Claim7 := { stood := { row := frameSpoiltRow, standIns := [], harness := (true, "c4ec6f1393220ac5ba1e617cfb24d8f543b01f4fa9e8413dd5950c9953dbe595"), looks := false }, kinds := [], alts := [], laidByText := true, laidKinds := [.data], laidTests := true, laidLooks := .later }
def FrameSpoiltCardSaid : Prop := Claim7.holds Tryd.pinned (.plain (OpenSpec.ofChange frameSpoiltSpec)) frameSpoiltCard

/-- THE TIED CARD OF 'arrearslaw6.FrameTorn'. -/
def frameTornCard : Claim7 := { stood := { row := frameTornRow, standIns := [], harness := (true, "c4ec6f1393220ac5ba1e617cfb24d8f543b01f4fa9e8413dd5950c9953dbe595"), looks := false }, kinds := [], alts := [], laidByText := true, laidKinds := [.data], laidTests := true, laidLooks := .later }
def FrameTornCardSaid : Prop := Claim7.holds Tryd.pinned (.plain (OpenSpec.ofChange frameTornSpec)) frameTornCard

/-- THE TIED CARD OF 'arrearslaw6.FrameGoesOn'. -/
def frameGoesOnCard : Claim7 := { stood := { row := frameGoesOnRow, standIns := [], harness := (true, "c4ec6f1393220ac5ba1e617cfb24d8f543b01f4fa9e8413dd5950c9953dbe595"), looks := false }, kinds := [], alts := [], laidByText := true, laidKinds := [.data], laidTests := true, laidLooks := .later }
def FrameGoesOnCardSaid : Prop := Claim7.holds Tryd.pinned (.plain (OpenSpec.ofChange frameGoesOnSpec)) frameGoesOnCard

/-- THE TIED CARD OF 'arrearslaw6.FrameFresh'. -/
def frameFreshCard : Claim7 := { stood := { row := frameFreshRow, standIns := [], harness := (true, "c4ec6f1393220ac5ba1e617cfb24d8f543b01f4fa9e8413dd5950c9953dbe595"), looks := false }, kinds := [], alts := [], laidByText := true, laidKinds := [.data], laidTests := true, laidLooks := .later }
def FrameFreshCardSaid : Prop := Claim7.holds Tryd.pinned (.plain (OpenSpec.ofChange frameFreshSpec)) frameFreshCard

/-- THE SECOND FORM's CARD OF 'arrearslaw6.FrameSums'. -/
def frameSumsUptoCard : Claim7 := { stood := { row := frameSumsUptoRow, standIns := [], harness := (true, "c4ec6f1393220ac5ba1e617cfb24d8f543b01f4fa9e8413dd5950c9953dbe595"), looks := false }, kinds := [], alts := [], laidByText := true, laidKinds := [.data], laidTests := true, laidLooks := .later }
def FrameSumsUptoCardSaid : Prop := Claim7.holds Tryd.pinned (.plain (OpenSpec.upto frameSumsSpec)) frameSumsUptoCard

/-- THE SECOND FORM's CARD OF 'arrearslaw6.FrameJoins'. -/
def frameJoinsUptoCard : Claim7 := { stood := { row := frameJoinsUptoRow, standIns := [], harness := (true, "c4ec6f1393220ac5ba1e617cfb24d8f543b01f4fa9e8413dd5950c9953dbe595"), looks := false }, kinds := [], alts := [], laidByText := true, laidKinds := [.data], laidTests := true, laidLooks := .later }
def FrameJoinsUptoCardSaid : Prop := Claim7.holds Tryd.pinned (.plain (OpenSpec.upto frameJoinsSpec)) frameJoinsUptoCard

/-- THE SECOND FORM's CARD OF 'arrearslaw6.FrameDecodes'. -/
def frameDecodesUptoCard : Claim7 := { stood := { row := frameDecodesUptoRow, standIns := [], harness := (true, "c4ec6f1393220ac5ba1e617cfb24d8f543b01f4fa9e8413dd5950c9953dbe595"), looks := false }, kinds := [], alts := [], laidByText := true, laidKinds := [.data], laidTests := true, laidLooks := .later }
def FrameDecodesUptoCardSaid : Prop := Claim7.holds Tryd.pinned (.plain (OpenSpec.upto frameDecodesSpec)) frameDecodesUptoCard

/-- THE SECOND FORM's CARD OF 'arrearslaw6.FrameScans'. -/
def frameScansUptoCard : Claim7 := { stood := { row := frameScansUptoRow, standIns := [], harness := (true, "c4ec6f1393220ac5ba1e617cfb24d8f543b01f4fa9e8413dd5950c9953dbe595"), looks := false }, kinds := [], alts := [], laidByText := true, laidKinds := [.data], laidTests := true, laidLooks := .later }
def FrameScansUptoCardSaid : Prop := Claim7.holds Tryd.pinned (.plain (OpenSpec.upto frameScansSpec)) frameScansUptoCard

/-- THE SECOND FORM's CARD OF 'arrearslaw6.FrameGoesAgain'. -/
def frameGoesAgainUptoCard : Claim7 := { stood := { row := frameGoesAgainUptoRow, standIns := [], harness := (true, "c4ec6f1393220ac5ba1e617cfb24d8f543b01f4fa9e8413dd5950c9953dbe595"), looks := false }, kinds := [], alts := [], laidByText := true, laidKinds := [.data], laidTests := true, laidLooks := .later }
def FrameGoesAgainUptoCardSaid : Prop := Claim7.holds Tryd.pinned (.plain (OpenSpec.upto frameGoesAgainSpec)) frameGoesAgainUptoCard

/-- THE SECOND FORM's CARD OF 'arrearslaw6.FrameCutAgain'. -/
def frameCutAgainUptoCard : Claim7 := { stood := { row := frameCutAgainUptoRow, standIns := [], harness := (true, "c4ec6f1393220ac5ba1e617cfb24d8f543b01f4fa9e8413dd5950c9953dbe595"), looks := false }, kinds := [], alts := [], laidByText := true, laidKinds := [.data], laidTests := true, laidLooks := .later }
def FrameCutAgainUptoCardSaid : Prop := Claim7.holds Tryd.pinned (.plain (OpenSpec.upto frameCutAgainSpec)) frameCutAgainUptoCard

/-- THE SECOND FORM's CARD OF 'arrearslaw6.FrameSpoilt'. -/
def frameSpoiltUptoCard : Claim7 := { stood := { row := frameSpoiltUptoRow, standIns := [], harness := (true, "c4ec6f1393220ac5ba1e617cfb24d8f543b01f4fa9e8413dd5950c9953dbe595"), looks := false }, kinds := [], alts := [], laidByText := true, laidKinds := [.data], laidTests := true, laidLooks := .later }
def FrameSpoiltUptoCardSaid : Prop := Claim7.holds Tryd.pinned (.plain (OpenSpec.upto frameSpoiltSpec)) frameSpoiltUptoCard

/-- THE SECOND FORM's CARD OF 'arrearslaw6.FrameTorn'. -/
def frameTornUptoCard : Claim7 := { stood := { row := frameTornUptoRow, standIns := [], harness := (true, "c4ec6f1393220ac5ba1e617cfb24d8f543b01f4fa9e8413dd5950c9953dbe595"), looks := false }, kinds := [], alts := [], laidByText := true, laidKinds := [.data], laidTests := true, laidLooks := .later }
def FrameTornUptoCardSaid : Prop := Claim7.holds Tryd.pinned (.plain (OpenSpec.upto frameTornSpec)) frameTornUptoCard

/-- THE SECOND FORM's CARD OF 'arrearslaw6.FrameGoesOn'. -/
def frameGoesOnUptoCard : Claim7 := { stood := { row := frameGoesOnUptoRow, standIns := [], harness := (true, "c4ec6f1393220ac5ba1e617cfb24d8f543b01f4fa9e8413dd5950c9953dbe595"), looks := false }, kinds := [], alts := [], laidByText := true, laidKinds := [.data], laidTests := true, laidLooks := .later }
def FrameGoesOnUptoCardSaid : Prop := Claim7.holds Tryd.pinned (.plain (OpenSpec.upto frameGoesOnSpec)) frameGoesOnUptoCard

/-- THE SECOND FORM's CARD OF 'arrearslaw6.FrameFresh'. -/
def frameFreshUptoCard : Claim7 := { stood := { row := frameFreshUptoRow, standIns := [], harness := (true, "c4ec6f1393220ac5ba1e617cfb24d8f543b01f4fa9e8413dd5950c9953dbe595"), looks := false }, kinds := [], alts := [], laidByText := true, laidKinds := [.data], laidTests := true, laidLooks := .later }
def FrameFreshUptoCardSaid : Prop := Claim7.holds Tryd.pinned (.plain (OpenSpec.upto frameFreshSpec)) frameFreshUptoCard
end Rows
end Go.Proofs.YtgfjmpnlkjocaaaDoor
