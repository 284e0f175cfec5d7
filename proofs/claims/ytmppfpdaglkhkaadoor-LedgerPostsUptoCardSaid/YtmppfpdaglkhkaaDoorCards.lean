/-
  DERIVED. GIVEN WITH THE SEED: THE CARDS: each row of YtmppfpdaglkhkaaDoorRows.lean that lists a variable, with what it lists TIED to the program's text (the seventh form; the later family's looks); each row that meets fmt, with fmt's text TOLD by the authors' own Lean function (tested against real Go, not proved from fmt's source: count such statements apart). THE CARD IS WHAT COUNTS. Prove the row's statement (the work); the ties are given (YtmppfpdaglkhkaaDoorTie.lean); close each card by the builder's one call (the guide's Derived/Test/ToyasCard.lean, 'card_holds'). Laid BY PROGRAM, IN A SANDBOX (cutbox-door.mjs). By AI agents, Wed Nov 11 2026. No macro, syntax, notation, axiom, sorry.
-/
import Derived.Test.YtmppfpdaglkhkaaDoorRows
import GoSem.ClaimSeven
namespace Go.Proofs.YtmppfpdaglkhkaaDoor
namespace Rows

/-- THE TIED CARD OF 'arrearslaw8.LedgerBalances'. -/
def ledgerBalancesCard : Claim7 := { stood := { row := ledgerBalancesRow, standIns := [], harness := (true, "a8719aa0d65426cacb7853b1166f71b74f052d03b93f2336318f0ca06cb32c09"), looks := false }, kinds := [], alts := [], laidByText := true, laidKinds := [.data], laidTests := true, laidLooks := .later }
def LedgerBalancesCardSaid : Prop := Claim7.holds Tryd.pinned (.plain (OpenSpec.ofChange ledgerBalancesSpec)) ledgerBalancesCard

/-- THE TIED CARD OF 'arrearslaw8.LedgerPosts'. -/
def ledgerPostsCard : Claim7 := { stood := { row := ledgerPostsRow, standIns := [], harness := (true, "a8719aa0d65426cacb7853b1166f71b74f052d03b93f2336318f0ca06cb32c09"), looks := false }, kinds := [], alts := [], laidByText := true, laidKinds := [.data], laidTests := true, laidLooks := .later }
def LedgerPostsCardSaid : Prop := Claim7.holds Tryd.pinned (.plain (OpenSpec.ofChange ledgerPostsSpec)) ledgerPostsCard

/-- THE TIED CARD OF 'arrearslaw8.LedgerOrderless'. -/
def ledgerOrderlessCard : Claim7 := { stood := { row := ledgerOrderlessRow, standIns := [], harness := (true, "a8719aa0d65426cacb7853b1166f71b74f052d03b93f2336318f0ca06cb32c09"), looks := false }, kinds := [], alts := [], laidByText := true, laidKinds := [.data], laidTests := true, laidLooks := .later }
def LedgerOrderlessCardSaid : Prop := Claim7.holds Tryd.pinned (.plain (OpenSpec.ofChange ledgerOrderlessSpec)) ledgerOrderlessCard

/-- THE TIED CARD OF 'arrearslaw8.LedgerJoins'. -/
def ledgerJoinsCard : Claim7 := { stood := { row := ledgerJoinsRow, standIns := [], harness := (true, "a8719aa0d65426cacb7853b1166f71b74f052d03b93f2336318f0ca06cb32c09"), looks := false }, kinds := [], alts := [], laidByText := true, laidKinds := [.data], laidTests := true, laidLooks := .later }
def LedgerJoinsCardSaid : Prop := Claim7.holds Tryd.pinned (.plain (OpenSpec.ofChange ledgerJoinsSpec)) ledgerJoinsCard

/-- THE TIED CARD OF 'arrearslaw8.LedgerAllOrNone'. -/
def ledgerAllOrNoneCard : Claim7 := { stood := { row := ledgerAllOrNoneRow, standIns := [], harness := (true, "a8719aa0d65426cacb7853b1166f71b74f052d03b93f2336318f0ca06cb32c09"), looks := false }, kinds := [], alts := [], laidByText := true, laidKinds := [.data], laidTests := true, laidLooks := .later }
def LedgerAllOrNoneCardSaid : Prop := Claim7.holds Tryd.pinned (.plain (OpenSpec.ofChange ledgerAllOrNoneSpec)) ledgerAllOrNoneCard

/-- THE TIED CARD OF 'arrearslaw8.LedgerUndoes'. -/
def ledgerUndoesCard : Claim7 := { stood := { row := ledgerUndoesRow, standIns := [], harness := (true, "a8719aa0d65426cacb7853b1166f71b74f052d03b93f2336318f0ca06cb32c09"), looks := false }, kinds := [], alts := [], laidByText := true, laidKinds := [.data], laidTests := true, laidLooks := .later }
def LedgerUndoesCardSaid : Prop := Claim7.holds Tryd.pinned (.plain (OpenSpec.ofChange ledgerUndoesSpec)) ledgerUndoesCard

/-- THE TIED CARD OF 'arrearslaw8.LedgerSides'. -/
def ledgerSidesCard : Claim7 := { stood := { row := ledgerSidesRow, standIns := [], harness := (true, "a8719aa0d65426cacb7853b1166f71b74f052d03b93f2336318f0ca06cb32c09"), looks := false }, kinds := [], alts := [], laidByText := true, laidKinds := [.data], laidTests := true, laidLooks := .later }
def LedgerSidesCardSaid : Prop := Claim7.holds Tryd.pinned (.plain (OpenSpec.ofChange ledgerSidesSpec)) ledgerSidesCard

/-- THE TIED CARD OF 'arrearslaw8.LedgerBalanced'. -/
def ledgerBalancedCard : Claim7 := { stood := { row := ledgerBalancedRow, standIns := [], harness := (true, "a8719aa0d65426cacb7853b1166f71b74f052d03b93f2336318f0ca06cb32c09"), looks := false }, kinds := [], alts := [], laidByText := true, laidKinds := [.data], laidTests := true, laidLooks := .later }
def LedgerBalancedCardSaid : Prop := Claim7.holds Tryd.pinned (.plain (OpenSpec.ofChange ledgerBalancedSpec)) ledgerBalancedCard

/-- THE TIED CARD OF 'arrearslaw8.LedgerExact'. -/
def ledgerExactCard : Claim7 := { stood := { row := ledgerExactRow, standIns := [], harness := (true, "a8719aa0d65426cacb7853b1166f71b74f052d03b93f2336318f0ca06cb32c09"), looks := false }, kinds := [], alts := [], laidByText := true, laidKinds := [.data], laidTests := true, laidLooks := .later }
def LedgerExactCardSaid : Prop := Claim7.holds Tryd.pinned (.plain (OpenSpec.ofChange ledgerExactSpec)) ledgerExactCard

/-- THE SECOND FORM's CARD OF 'arrearslaw8.LedgerBalances'. -/
def ledgerBalancesUptoCard : Claim7 := { stood := { row := ledgerBalancesUptoRow, standIns := [], harness := (true, "a8719aa0d65426cacb7853b1166f71b74f052d03b93f2336318f0ca06cb32c09"), looks := false }, kinds := [], alts := [], laidByText := true, laidKinds := [.data], laidTests := true, laidLooks := .later }
def LedgerBalancesUptoCardSaid : Prop := Claim7.holds Tryd.pinned (.plain (OpenSpec.upto ledgerBalancesSpec)) ledgerBalancesUptoCard

/-- THE SECOND FORM's CARD OF 'arrearslaw8.LedgerPosts'. -/
def ledgerPostsUptoCard : Claim7 := { stood := { row := ledgerPostsUptoRow, standIns := [], harness := (true, "a8719aa0d65426cacb7853b1166f71b74f052d03b93f2336318f0ca06cb32c09"), looks := false }, kinds := [], alts := [], laidByText := true, laidKinds := [.data], laidTests := true, laidLooks := .later }
def LedgerPostsUptoCardSaid : Prop := Claim7.holds Tryd.pinned (.plain (OpenSpec.upto ledgerPostsSpec)) ledgerPostsUptoCard

/-- THE SECOND FORM's CARD OF 'arrearslaw8.LedgerOrderless'. -/
def ledgerOrderlessUptoCard : Claim7 := { stood := { row := ledgerOrderlessUptoRow, standIns := [], harness := (true, "a8719aa0d65426cacb7853b1166f71b74f052d03b93f2336318f0ca06cb32c09"), looks := false }, kinds := [], alts := [], laidByText := true, laidKinds := [.data], laidTests := true, laidLooks := .later }
def LedgerOrderlessUptoCardSaid : Prop := Claim7.holds Tryd.pinned (.plain (OpenSpec.upto ledgerOrderlessSpec)) ledgerOrderlessUptoCard

/-- THE SECOND FORM's CARD OF 'arrearslaw8.LedgerJoins'. -/
def ledgerJoinsUptoCard : Claim7 := { stood := { row := ledgerJoinsUptoRow, standIns := [], harness := (true, "a8719aa0d65426cacb7853b1166f71b74f052d03b93f2336318f0ca06cb32c09"), looks := false }, kinds := [], alts := [], laidByText := true, laidKinds := [.data], laidTests := true, laidLooks := .later }
def LedgerJoinsUptoCardSaid : Prop := Claim7.holds Tryd.pinned (.plain (OpenSpec.upto ledgerJoinsSpec)) ledgerJoinsUptoCard

/-- THE SECOND FORM's CARD OF 'arrearslaw8.LedgerAllOrNone'. -/
def ledgerAllOrNoneUptoCard : Claim7 := { stood := { row := ledgerAllOrNoneUptoRow, standIns := [], harness := (true, "a8719aa0d65426cacb7853b1166f71b74f052d03b93f2336318f0ca06cb32c09"), looks := false }, kinds := [], alts := [], laidByText := true, laidKinds := [.data], laidTests := true, laidLooks := .later }
def LedgerAllOrNoneUptoCardSaid : Prop := Claim7.holds Tryd.pinned (.plain (OpenSpec.upto ledgerAllOrNoneSpec)) ledgerAllOrNoneUptoCard

/-- THE SECOND FORM's CARD OF 'arrearslaw8.LedgerUndoes'. -/
def ledgerUndoesUptoCard : Claim7 := { stood := { row := ledgerUndoesUptoRow, standIns := [], harness := (true, "a8719aa0d65426cacb7853b1166f71b74f052d03b93f2336318f0ca06cb32c09"), looks := false }, kinds := [], alts := [], laidByText := true, laidKinds := [.data], laidTests := true, laidLooks := .later }
def LedgerUndoesUptoCardSaid : Prop := Claim7.holds Tryd.pinned (.plain (OpenSpec.upto ledgerUndoesSpec)) ledgerUndoesUptoCard

/-- THE SECOND FORM's CARD OF 'arrearslaw8.LedgerSides'. -/
def ledgerSidesUptoCard : Claim7 := { stood := { row := ledgerSidesUptoRow, standIns := [], harness := (true, "a8719aa0d65426cacb7853b1166f71b74f052d03b93f2336318f0ca06cb32c09"), looks := false }, kinds := [], alts := [], laidByText := true, laidKinds := [.data], laidTests := true, laidLooks := .later }
def LedgerSidesUptoCardSaid : Prop := Claim7.holds Tryd.pinned (.plain (OpenSpec.upto ledgerSidesSpec)) ledgerSidesUptoCard

/-- THE SECOND FORM's CARD OF 'arrearslaw8.LedgerBalanced'. -/
def ledgerBalancedUptoCard : Claim7 := { stood := { row := ledgerBalancedUptoRow, standIns := [], harness := (true, "a8719aa0d65426cacb7853b1166f71b74f052d03b93f2336318f0ca06cb32c09"), looks := false }, kinds := [], alts := [], laidByText := true, laidKinds := [.data], laidTests := true, laidLooks := .later }
def LedgerBalancedUptoCardSaid : Prop := Claim7.holds Tryd.pinned (.plain (OpenSpec.upto ledgerBalancedSpec)) ledgerBalancedUptoCard

/-- THE SECOND FORM's CARD OF 'arrearslaw8.LedgerExact'. -/
def ledgerExactUptoCard : Claim7 := { stood := { row := ledgerExactUptoRow, standIns := [], harness := (true, "a8719aa0d65426cacb7853b1166f71b74f052d03b93f2336318f0ca06cb32c09"), looks := false }, kinds := [], alts := [], laidByText := true, laidKinds := [.data], laidTests := true, laidLooks := .later }
def LedgerExactUptoCardSaid : Prop := Claim7.holds Tryd.pinned (.plain (OpenSpec.upto ledgerExactSpec)) ledgerExactUptoCard
end Rows
end Go.Proofs.YtmppfpdaglkhkaaDoor
