/-
  NARROWER THAN 'FOR EVERY INPUT', by the rows' own cells (each row's printed sentence says how): LedgerBalances: laid · LedgerPosts: laid · LedgerOrderless: laid · LedgerJoins: laid · LedgerAllOrNone: laid · LedgerUndoes: laid · LedgerSides: laid · LedgerBalanced: laid · LedgerExact: laid.
  DERIVED. THE GIVEN ROWS OF THIS SEAT. 9 by the template 'for every input the law returns true; each argument reads behind the call as it read before'; 0 by the template 'total and deterministic' (their statements: YtmppfpdaglkhkaaDoorTotals.lean).
  GIVEN WITH THE SEED: the statements are not yours to turn. If you find one false, say at which input.
  Laid BY PROGRAM, IN A SANDBOX (cutbox-rows.mjs): the forced cells as the released guide's own fill.sh prints them over the translation a90a5cfcff71716e… (all of the seat's roots in one cut). By AI agents, Wed Nov 11 2026. No macro, syntax, notation, axiom, sorry.
-/
import Derived.Test.YtmppfpdaglkhkaaDoorChecked
import GoSem.Claim
import GoSem.ClaimJoined
import GoSem.ClaimMapViews
import Derived.JoinedTies
import Derived.KernelRfl
namespace Go.Proofs.YtmppfpdaglkhkaaDoor
/- THE CELL 'sum', in the pinned program and in every row, IS THE sha256 OF THE DUMP (.gsa) THAT YtmppfpdaglkhkaaDoorProg.lean LOADS. Nothing in Lean hashes anything: it is a label: what it is worth is what the hold of that sum in a sandbox is worth. -/
noncomputable def Tryd.pinned : Pinned := { name := "ytmppfpdaglkhkaadoor", sum := "a90a5cfcff71716e36d305b4faa710345e5905146dc66946dcb30fb14a08daea", checked := Tryd.checked }
namespace Rows
def none {H : Type} : Left H := { results := [], args := [] }

/- WHAT THE LISTED PACKAGE-LEVEL VARIABLES READ AS WHEN THE CALL BEGINS. Each datum BY PROGRAM (the guide's laid-datum.mjs) off the statement by which the dump's own 'gosem.cut.vars' lays the variable. In a bare row this is a premise. The card (YtmppfpdaglkhkaaDoorCards.lean) ties it to the program's text. -/
def laid_arrears_ledger_sides {H : Type} : DataW H := .agg [.lit (.int .i64 1), .lit (.int .i64 1), .lit (.int .i64 1), .lit (.int .i64 1), .lit (.int .i64 (-1)), .lit (.int .i64 (-1)), .lit (.int .i64 (-1)), .lit (.int .i64 (-1)), .lit (.int .i64 (-1)), .lit (.int .i64 1), .lit (.int .i64 (-1)), .lit (.int .i64 1)]

/-- 'arrearslaw8.LedgerBalances': WHATEVER THE INPUT: true; the input reads as it did. -/
def ledgerBalancesSpec : ChangeSpec := { name := "ledgerBalances", fn := fun _ => fun
  | [d1, d2] => { results := [.lit (.bool true)], args := [d1, d2] }
  | _ => none }
def ledgerBalancesRow : OpenClaim := { program := "ytmppfpdaglkhkaadoor", sum := "a90a5cfcff71716e36d305b4faa710345e5905146dc66946dcb30fb14a08daea", func := "arrears/arrearslaw8.LedgerBalances", spec := "ledgerBalances", named := ["arrears/ledger.sides"], apart := false, laid := [("arrears/ledger.sides", laid_arrears_ledger_sides)] }
def LedgerBalancesSaid : Prop := ledgerBalancesRow.holds Tryd.pinned (OpenSpec.ofChange ledgerBalancesSpec)

/-- ITS FALSE NEIGHBOUR: 'it returns false'. Refute it at one input. -/
def ledgerBalancesWrong : ChangeSpec := { name := "ledgerBalances", fn := fun _ => fun
  | [d1, d2] => { results := [.lit (.bool false)], args := [d1, d2] }
  | _ => none }
def LedgerBalancesWrongFalsely : Prop := ledgerBalancesRow.holds Tryd.pinned (OpenSpec.ofChange ledgerBalancesWrong)

/-- 'arrearslaw8.LedgerPosts': WHATEVER THE INPUT: true; the input reads as it did. -/
def ledgerPostsSpec : ChangeSpec := { name := "ledgerPosts", fn := fun _ => fun
  | [d1, d2] => { results := [.lit (.bool true)], args := [d1, d2] }
  | _ => none }
def ledgerPostsRow : OpenClaim := { program := "ytmppfpdaglkhkaadoor", sum := "a90a5cfcff71716e36d305b4faa710345e5905146dc66946dcb30fb14a08daea", func := "arrears/arrearslaw8.LedgerPosts", spec := "ledgerPosts", inPlace := ["math/bits.Add64", "math/bits.Sub64"], named := ["arrears/ledger.sides"], apart := false, laid := [("arrears/ledger.sides", laid_arrears_ledger_sides)] }
def LedgerPostsSaid : Prop := ledgerPostsRow.holds Tryd.pinned (OpenSpec.ofChange ledgerPostsSpec)

/-- ITS FALSE NEIGHBOUR: 'it returns false'. Refute it at one input. -/
def ledgerPostsWrong : ChangeSpec := { name := "ledgerPosts", fn := fun _ => fun
  | [d1, d2] => { results := [.lit (.bool false)], args := [d1, d2] }
  | _ => none }
def LedgerPostsWrongFalsely : Prop := ledgerPostsRow.holds Tryd.pinned (OpenSpec.ofChange ledgerPostsWrong)

/-- 'arrearslaw8.LedgerOrderless': WHATEVER THE INPUT: true; the input reads as it did. -/
def ledgerOrderlessSpec : ChangeSpec := { name := "ledgerOrderless", fn := fun _ => fun
  | [d1, d2, d3] => { results := [.lit (.bool true)], args := [d1, d2, d3] }
  | _ => none }
def ledgerOrderlessRow : OpenClaim := { program := "ytmppfpdaglkhkaadoor", sum := "a90a5cfcff71716e36d305b4faa710345e5905146dc66946dcb30fb14a08daea", func := "arrears/arrearslaw8.LedgerOrderless", spec := "ledgerOrderless", inPlace := ["math/bits.Add64", "math/bits.Sub64"], named := ["arrears/ledger.sides"], apart := false, laid := [("arrears/ledger.sides", laid_arrears_ledger_sides)] }
def LedgerOrderlessSaid : Prop := ledgerOrderlessRow.holds Tryd.pinned (OpenSpec.ofChange ledgerOrderlessSpec)

/-- ITS FALSE NEIGHBOUR: 'it returns false'. Refute it at one input. -/
def ledgerOrderlessWrong : ChangeSpec := { name := "ledgerOrderless", fn := fun _ => fun
  | [d1, d2, d3] => { results := [.lit (.bool false)], args := [d1, d2, d3] }
  | _ => none }
def LedgerOrderlessWrongFalsely : Prop := ledgerOrderlessRow.holds Tryd.pinned (OpenSpec.ofChange ledgerOrderlessWrong)

/-- 'arrearslaw8.LedgerJoins': WHATEVER THE INPUT: true; the input reads as it did. -/
def ledgerJoinsSpec : ChangeSpec := { name := "ledgerJoins", fn := fun _ => fun
  | [d1, d2, d3] => { results := [.lit (.bool true)], args := [d1, d2, d3] }
  | _ => none }
def ledgerJoinsRow : OpenClaim := { program := "ytmppfpdaglkhkaadoor", sum := "a90a5cfcff71716e36d305b4faa710345e5905146dc66946dcb30fb14a08daea", func := "arrears/arrearslaw8.LedgerJoins", spec := "ledgerJoins", inPlace := ["math/bits.Add64", "math/bits.Sub64"], named := ["arrears/ledger.sides"], apart := false, laid := [("arrears/ledger.sides", laid_arrears_ledger_sides)] }
def LedgerJoinsSaid : Prop := ledgerJoinsRow.holds Tryd.pinned (OpenSpec.ofChange ledgerJoinsSpec)

/-- ITS FALSE NEIGHBOUR: 'it returns false'. Refute it at one input. -/
def ledgerJoinsWrong : ChangeSpec := { name := "ledgerJoins", fn := fun _ => fun
  | [d1, d2, d3] => { results := [.lit (.bool false)], args := [d1, d2, d3] }
  | _ => none }
def LedgerJoinsWrongFalsely : Prop := ledgerJoinsRow.holds Tryd.pinned (OpenSpec.ofChange ledgerJoinsWrong)

/-- 'arrearslaw8.LedgerAllOrNone': WHATEVER THE INPUT: true; the input reads as it did. -/
def ledgerAllOrNoneSpec : ChangeSpec := { name := "ledgerAllOrNone", fn := fun _ => fun
  | [d1, d2, d3, d4] => { results := [.lit (.bool true)], args := [d1, d2, d3, d4] }
  | _ => none }
def ledgerAllOrNoneRow : OpenClaim := { program := "ytmppfpdaglkhkaadoor", sum := "a90a5cfcff71716e36d305b4faa710345e5905146dc66946dcb30fb14a08daea", func := "arrears/arrearslaw8.LedgerAllOrNone", spec := "ledgerAllOrNone", inPlace := ["math/bits.Add64", "math/bits.Sub64"], named := ["arrears/ledger.sides"], apart := false, laid := [("arrears/ledger.sides", laid_arrears_ledger_sides)] }
def LedgerAllOrNoneSaid : Prop := ledgerAllOrNoneRow.holds Tryd.pinned (OpenSpec.ofChange ledgerAllOrNoneSpec)

/-- ITS FALSE NEIGHBOUR: 'it returns false'. Refute it at one input. -/
def ledgerAllOrNoneWrong : ChangeSpec := { name := "ledgerAllOrNone", fn := fun _ => fun
  | [d1, d2, d3, d4] => { results := [.lit (.bool false)], args := [d1, d2, d3, d4] }
  | _ => none }
def LedgerAllOrNoneWrongFalsely : Prop := ledgerAllOrNoneRow.holds Tryd.pinned (OpenSpec.ofChange ledgerAllOrNoneWrong)

/-- 'arrearslaw8.LedgerUndoes': WHATEVER THE INPUT: true; the input reads as it did. -/
def ledgerUndoesSpec : ChangeSpec := { name := "ledgerUndoes", fn := fun _ => fun
  | [d1, d2] => { results := [.lit (.bool true)], args := [d1, d2] }
  | _ => none }
def ledgerUndoesRow : OpenClaim := { program := "ytmppfpdaglkhkaadoor", sum := "a90a5cfcff71716e36d305b4faa710345e5905146dc66946dcb30fb14a08daea", func := "arrears/arrearslaw8.LedgerUndoes", spec := "ledgerUndoes", inPlace := ["math/bits.Add64", "math/bits.Sub64"], named := ["arrears/ledger.sides"], apart := false, laid := [("arrears/ledger.sides", laid_arrears_ledger_sides)] }
def LedgerUndoesSaid : Prop := ledgerUndoesRow.holds Tryd.pinned (OpenSpec.ofChange ledgerUndoesSpec)

/-- ITS FALSE NEIGHBOUR: 'it returns false'. Refute it at one input. -/
def ledgerUndoesWrong : ChangeSpec := { name := "ledgerUndoes", fn := fun _ => fun
  | [d1, d2] => { results := [.lit (.bool false)], args := [d1, d2] }
  | _ => none }
def LedgerUndoesWrongFalsely : Prop := ledgerUndoesRow.holds Tryd.pinned (OpenSpec.ofChange ledgerUndoesWrong)

/-- 'arrearslaw8.LedgerSides': WHATEVER THE INPUT: true; the input reads as it did. -/
def ledgerSidesSpec : ChangeSpec := { name := "ledgerSides", fn := fun _ => fun
  | [d1, d2] => { results := [.lit (.bool true)], args := [d1, d2] }
  | _ => none }
def ledgerSidesRow : OpenClaim := { program := "ytmppfpdaglkhkaadoor", sum := "a90a5cfcff71716e36d305b4faa710345e5905146dc66946dcb30fb14a08daea", func := "arrears/arrearslaw8.LedgerSides", spec := "ledgerSides", inPlace := ["math/bits.Add64", "math/bits.Sub64"], named := ["arrears/ledger.sides"], apart := false, laid := [("arrears/ledger.sides", laid_arrears_ledger_sides)] }
def LedgerSidesSaid : Prop := ledgerSidesRow.holds Tryd.pinned (OpenSpec.ofChange ledgerSidesSpec)

/-- ITS FALSE NEIGHBOUR: 'it returns false'. Refute it at one input. -/
def ledgerSidesWrong : ChangeSpec := { name := "ledgerSides", fn := fun _ => fun
  | [d1, d2] => { results := [.lit (.bool false)], args := [d1, d2] }
  | _ => none }
def LedgerSidesWrongFalsely : Prop := ledgerSidesRow.holds Tryd.pinned (OpenSpec.ofChange ledgerSidesWrong)

/-- 'arrearslaw8.LedgerBalanced': WHATEVER THE INPUT: true; the input reads as it did. -/
def ledgerBalancedSpec : ChangeSpec := { name := "ledgerBalanced", fn := fun _ => fun
  | [d] => { results := [.lit (.bool true)], args := [d] }
  | _ => none }
def ledgerBalancedRow : OpenClaim := { program := "ytmppfpdaglkhkaadoor", sum := "a90a5cfcff71716e36d305b4faa710345e5905146dc66946dcb30fb14a08daea", func := "arrears/arrearslaw8.LedgerBalanced", spec := "ledgerBalanced", inPlace := ["math/bits.Add64", "math/bits.Sub64"], named := ["arrears/ledger.sides"], apart := false, laid := [("arrears/ledger.sides", laid_arrears_ledger_sides)] }
def LedgerBalancedSaid : Prop := ledgerBalancedRow.holds Tryd.pinned (OpenSpec.ofChange ledgerBalancedSpec)

/-- ITS FALSE NEIGHBOUR: 'it returns false'. Refute it at one input. -/
def ledgerBalancedWrong : ChangeSpec := { name := "ledgerBalanced", fn := fun _ => fun
  | [d] => { results := [.lit (.bool false)], args := [d] }
  | _ => none }
def LedgerBalancedWrongFalsely : Prop := ledgerBalancedRow.holds Tryd.pinned (OpenSpec.ofChange ledgerBalancedWrong)

/-- 'arrearslaw8.LedgerExact': WHATEVER THE INPUT: true; the input reads as it did. -/
def ledgerExactSpec : ChangeSpec := { name := "ledgerExact", fn := fun _ => fun
  | [d] => { results := [.lit (.bool true)], args := [d] }
  | _ => none }
def ledgerExactRow : OpenClaim := { program := "ytmppfpdaglkhkaadoor", sum := "a90a5cfcff71716e36d305b4faa710345e5905146dc66946dcb30fb14a08daea", func := "arrears/arrearslaw8.LedgerExact", spec := "ledgerExact", inPlace := ["math/bits.Add64", "math/bits.Sub64"], named := ["arrears/ledger.sides"], apart := false, laid := [("arrears/ledger.sides", laid_arrears_ledger_sides)] }
def LedgerExactSaid : Prop := ledgerExactRow.holds Tryd.pinned (OpenSpec.ofChange ledgerExactSpec)

/-- ITS FALSE NEIGHBOUR: 'it returns false'. Refute it at one input. -/
def ledgerExactWrong : ChangeSpec := { name := "ledgerExact", fn := fun _ => fun
  | [d] => { results := [.lit (.bool false)], args := [d] }
  | _ => none }
def LedgerExactWrongFalsely : Prop := ledgerExactRow.holds Tryd.pinned (OpenSpec.ofChange ledgerExactWrong)

/- THE SECOND FORM. 'bulk': how many values and letters a reading holds, each counted each time it is reached (what is shared counts as often as it is met; a slice's spare places count too). A statement '..UptoSaid' is the law's where the arguments, and the package variables that the reading takes, are together of bulk at most 1048576: NARROWER than '..Said'. Prove '..Said' where nothing that the law and all that it calls make is longer than what came in: it says more and counts as full. Else prove '..UptoSaid'. A law counts once. -/
mutual
def uptoBulk {H : Type} : DataW H → Nat
  | .lit (.string bytes) => bytes.length + 1
  | .lit _ => 1
  | .nil => 1
  | .ptr d => uptoBulk d + 1
  | .slice elems spare => uptoBulkAll elems + uptoBulkAll spare + 1
  | .agg parts => uptoBulkAll parts + 1
  | .iface _ d => uptoBulk d + 1
  | .map entries => uptoBulkEntries entries + 1
  | .held _ => 1
def uptoBulkAll {H : Type} : List (DataW H) → Nat
  | [] => 0
  | d :: r => uptoBulk d + uptoBulkAll r
def uptoBulkEntries {H : Type} : List (Lit × DataW H) → Nat
  | [] => 0
  | x :: r => uptoBulkEntry x + uptoBulkEntries r
def uptoBulkEntry {H : Type} : Lit × DataW H → Nat
  | (.string bytes, d) => bytes.length + uptoBulk d + 1
  | (_, d) => uptoBulk d + 1
 end
def uptoSmall : (H : Type) → List (DataW H) → Bool := fun _ ds => decide (uptoBulkAll ds ≤ 1048576)
def OpenSpec.upto (s : _root_.Go.ChangeSpec) : _root_.Go.OpenSpec := { _root_.Go.OpenSpec.ofChange s with cond := some uptoSmall }

/-- 'arrearslaw8.LedgerBalances', WHERE WHAT IT READS IS OF BULK AT MOST 1048576: true; the input reads as it did. -/
def ledgerBalancesUptoRow : OpenClaim := { program := "ytmppfpdaglkhkaadoor", sum := "a90a5cfcff71716e36d305b4faa710345e5905146dc66946dcb30fb14a08daea", func := "arrears/arrearslaw8.LedgerBalances", spec := "ledgerBalances", named := ["arrears/ledger.sides"], apart := false, laid := [("arrears/ledger.sides", laid_arrears_ledger_sides)], narrowed := true }
def LedgerBalancesUptoSaid : Prop := ledgerBalancesUptoRow.holds Tryd.pinned (OpenSpec.upto ledgerBalancesSpec)

/-- 'arrearslaw8.LedgerPosts', WHERE WHAT IT READS IS OF BULK AT MOST 1048576: true; the input reads as it did. -/
def ledgerPostsUptoRow : OpenClaim := { program := "ytmppfpdaglkhkaadoor", sum := "a90a5cfcff71716e36d305b4faa710345e5905146dc66946dcb30fb14a08daea", func := "arrears/arrearslaw8.LedgerPosts", spec := "ledgerPosts", inPlace := ["math/bits.Add64", "math/bits.Sub64"], named := ["arrears/ledger.sides"], apart := false, laid := [("arrears/ledger.sides", laid_arrears_ledger_sides)], narrowed := true }
def LedgerPostsUptoSaid : Prop := ledgerPostsUptoRow.holds Tryd.pinned (OpenSpec.upto ledgerPostsSpec)

/-- 'arrearslaw8.LedgerOrderless', WHERE WHAT IT READS IS OF BULK AT MOST 1048576: true; the input reads as it did. -/
def ledgerOrderlessUptoRow : OpenClaim := { program := "ytmppfpdaglkhkaadoor", sum := "a90a5cfcff71716e36d305b4faa710345e5905146dc66946dcb30fb14a08daea", func := "arrears/arrearslaw8.LedgerOrderless", spec := "ledgerOrderless", inPlace := ["math/bits.Add64", "math/bits.Sub64"], named := ["arrears/ledger.sides"], apart := false, laid := [("arrears/ledger.sides", laid_arrears_ledger_sides)], narrowed := true }
def LedgerOrderlessUptoSaid : Prop := ledgerOrderlessUptoRow.holds Tryd.pinned (OpenSpec.upto ledgerOrderlessSpec)

/-- 'arrearslaw8.LedgerJoins', WHERE WHAT IT READS IS OF BULK AT MOST 1048576: true; the input reads as it did. -/
def ledgerJoinsUptoRow : OpenClaim := { program := "ytmppfpdaglkhkaadoor", sum := "a90a5cfcff71716e36d305b4faa710345e5905146dc66946dcb30fb14a08daea", func := "arrears/arrearslaw8.LedgerJoins", spec := "ledgerJoins", inPlace := ["math/bits.Add64", "math/bits.Sub64"], named := ["arrears/ledger.sides"], apart := false, laid := [("arrears/ledger.sides", laid_arrears_ledger_sides)], narrowed := true }
def LedgerJoinsUptoSaid : Prop := ledgerJoinsUptoRow.holds Tryd.pinned (OpenSpec.upto ledgerJoinsSpec)

/-- 'arrearslaw8.LedgerAllOrNone', WHERE WHAT IT READS IS OF BULK AT MOST 1048576: true; the input reads as it did. -/
def ledgerAllOrNoneUptoRow : OpenClaim := { program := "ytmppfpdaglkhkaadoor", sum := "a90a5cfcff71716e36d305b4faa710345e5905146dc66946dcb30fb14a08daea", func := "arrears/arrearslaw8.LedgerAllOrNone", spec := "ledgerAllOrNone", inPlace := ["math/bits.Add64", "math/bits.Sub64"], named := ["arrears/ledger.sides"], apart := false, laid := [("arrears/ledger.sides", laid_arrears_ledger_sides)], narrowed := true }
def LedgerAllOrNoneUptoSaid : Prop := ledgerAllOrNoneUptoRow.holds Tryd.pinned (OpenSpec.upto ledgerAllOrNoneSpec)

/-- 'arrearslaw8.LedgerUndoes', WHERE WHAT IT READS IS OF BULK AT MOST 1048576: true; the input reads as it did. -/
def ledgerUndoesUptoRow : OpenClaim := { program := "ytmppfpdaglkhkaadoor", sum := "a90a5cfcff71716e36d305b4faa710345e5905146dc66946dcb30fb14a08daea", func := "arrears/arrearslaw8.LedgerUndoes", spec := "ledgerUndoes", inPlace := ["math/bits.Add64", "math/bits.Sub64"], named := ["arrears/ledger.sides"], apart := false, laid := [("arrears/ledger.sides", laid_arrears_ledger_sides)], narrowed := true }
def LedgerUndoesUptoSaid : Prop := ledgerUndoesUptoRow.holds Tryd.pinned (OpenSpec.upto ledgerUndoesSpec)

/-- 'arrearslaw8.LedgerSides', WHERE WHAT IT READS IS OF BULK AT MOST 1048576: true; the input reads as it did. -/
def ledgerSidesUptoRow : OpenClaim := { program := "ytmppfpdaglkhkaadoor", sum := "a90a5cfcff71716e36d305b4faa710345e5905146dc66946dcb30fb14a08daea", func := "arrears/arrearslaw8.LedgerSides", spec := "ledgerSides", inPlace := ["math/bits.Add64", "math/bits.Sub64"], named := ["arrears/ledger.sides"], apart := false, laid := [("arrears/ledger.sides", laid_arrears_ledger_sides)], narrowed := true }
def LedgerSidesUptoSaid : Prop := ledgerSidesUptoRow.holds Tryd.pinned (OpenSpec.upto ledgerSidesSpec)

/-- 'arrearslaw8.LedgerBalanced', WHERE WHAT IT READS IS OF BULK AT MOST 1048576: true; the input reads as it did. -/
def ledgerBalancedUptoRow : OpenClaim := { program := "ytmppfpdaglkhkaadoor", sum := "a90a5cfcff71716e36d305b4faa710345e5905146dc66946dcb30fb14a08daea", func := "arrears/arrearslaw8.LedgerBalanced", spec := "ledgerBalanced", inPlace := ["math/bits.Add64", "math/bits.Sub64"], named := ["arrears/ledger.sides"], apart := false, laid := [("arrears/ledger.sides", laid_arrears_ledger_sides)], narrowed := true }
def LedgerBalancedUptoSaid : Prop := ledgerBalancedUptoRow.holds Tryd.pinned (OpenSpec.upto ledgerBalancedSpec)

/-- 'arrearslaw8.LedgerExact', WHERE WHAT IT READS IS OF BULK AT MOST 1048576: true; the input reads as it did. -/
def ledgerExactUptoRow : OpenClaim := { program := "ytmppfpdaglkhkaadoor", sum := "a90a5cfcff71716e36d305b4faa710345e5905146dc66946dcb30fb14a08daea", func := "arrears/arrearslaw8.LedgerExact", spec := "ledgerExact", inPlace := ["math/bits.Add64", "math/bits.Sub64"], named := ["arrears/ledger.sides"], apart := false, laid := [("arrears/ledger.sides", laid_arrears_ledger_sides)], narrowed := true }
def LedgerExactUptoSaid : Prop := ledgerExactUptoRow.holds Tryd.pinned (OpenSpec.upto ledgerExactSpec)

end Rows
end Go.Proofs.YtmppfpdaglkhkaaDoor
