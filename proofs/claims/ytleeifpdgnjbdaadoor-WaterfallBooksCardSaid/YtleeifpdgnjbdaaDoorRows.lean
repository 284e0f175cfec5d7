/-
  NARROWER THAN 'FOR EVERY INPUT', by the rows' own cells (each row's printed sentence says how): WaterfallAllocates: laid · WaterfallPours: laid · WaterfallTwice: laid · WaterfallBooks: laid.
  DERIVED. THE GIVEN ROWS OF THIS SEAT. 4 by the template 'for every input the law returns true; each argument reads behind the call as it read before'; 0 by the template 'total and deterministic' (their statements: YtleeifpdgnjbdaaDoorTotals.lean).
  GIVEN WITH THE SEED: the statements are not yours to turn. If you find one false, say at which input.
  Laid BY PROGRAM, IN A SANDBOX (cutbox-rows.mjs): the forced cells as the released guide's own fill.sh prints them over the translation 25871c36c7bbc9dc… (all of the seat's roots in one cut). By AI agents, Wed Nov 11 2026. No macro, syntax, notation, axiom, sorry.
-/
import Derived.Test.YtleeifpdgnjbdaaDoorChecked
import GoSem.Claim
import GoSem.ClaimJoined
import GoSem.ClaimMapViews
import Derived.JoinedTies
import Derived.KernelRfl
namespace Go.Proofs.YtleeifpdgnjbdaaDoor
/- THE CELL 'sum', in the pinned program and in every row, IS THE sha256 OF THE DUMP (.gsa) THAT YtleeifpdgnjbdaaDoorProg.lean LOADS. Nothing in Lean hashes anything: it is a label: what it is worth is what the hold of that sum in a sandbox is worth. -/
noncomputable def Tryd.pinned : Pinned := { name := "ytleeifpdgnjbdaadoor", sum := "25871c36c7bbc9dcaa23be8975880bb6524a5cc8dc9750b08c8ea7556313b6d5", checked := Tryd.checked }
namespace Rows
def none {H : Type} : Left H := { results := [], args := [] }

/- WHAT THE LISTED PACKAGE-LEVEL VARIABLES READ AS WHEN THE CALL BEGINS. Each datum BY PROGRAM (the guide's laid-datum.mjs) off the statement by which the dump's own 'gosem.cut.vars' lays the variable. In a bare row this is a premise. The card (YtleeifpdgnjbdaaDoorCards.lean) ties it to the program's text. -/
def laid_arrears_waterfall_orders {H : Type} : DataW H := .agg [.agg [.lit (.int .i64 3), .lit (.int .i64 2), .lit (.int .i64 1)], .agg [.lit (.int .i64 3), .lit (.int .i64 1), .lit (.int .i64 2)], .agg [.lit (.int .i64 2), .lit (.int .i64 3), .lit (.int .i64 1)], .agg [.lit (.int .i64 2), .lit (.int .i64 1), .lit (.int .i64 3)], .agg [.lit (.int .i64 1), .lit (.int .i64 3), .lit (.int .i64 2)], .agg [.lit (.int .i64 1), .lit (.int .i64 2), .lit (.int .i64 3)]]
def laid_arrears_ledger_sides {H : Type} : DataW H := .agg [.lit (.int .i64 1), .lit (.int .i64 1), .lit (.int .i64 1), .lit (.int .i64 1), .lit (.int .i64 (-1)), .lit (.int .i64 (-1)), .lit (.int .i64 (-1)), .lit (.int .i64 (-1)), .lit (.int .i64 (-1)), .lit (.int .i64 1), .lit (.int .i64 (-1)), .lit (.int .i64 1)]

/-- 'arrearslaw9.WaterfallAllocates': WHATEVER THE INPUT: true; the input reads as it did. -/
def waterfallAllocatesSpec : ChangeSpec := { name := "waterfallAllocates", fn := fun _ => fun
  | [d1, d2, d3] => { results := [.lit (.bool true)], args := [d1, d2, d3] }
  | _ => none }
def waterfallAllocatesRow : OpenClaim := { program := "ytleeifpdgnjbdaadoor", sum := "25871c36c7bbc9dcaa23be8975880bb6524a5cc8dc9750b08c8ea7556313b6d5", func := "arrears/arrearslaw9.WaterfallAllocates", spec := "waterfallAllocates", named := ["arrears/waterfall.orders"], apart := false, laid := [("arrears/waterfall.orders", laid_arrears_waterfall_orders)] }
def WaterfallAllocatesSaid : Prop := waterfallAllocatesRow.holds Tryd.pinned (OpenSpec.ofChange waterfallAllocatesSpec)

/-- ITS FALSE NEIGHBOUR: 'it returns false'. Refute it at one input. -/
def waterfallAllocatesWrong : ChangeSpec := { name := "waterfallAllocates", fn := fun _ => fun
  | [d1, d2, d3] => { results := [.lit (.bool false)], args := [d1, d2, d3] }
  | _ => none }
def WaterfallAllocatesWrongFalsely : Prop := waterfallAllocatesRow.holds Tryd.pinned (OpenSpec.ofChange waterfallAllocatesWrong)

/-- 'arrearslaw9.WaterfallPours': WHATEVER THE INPUT: true; the input reads as it did. -/
def waterfallPoursSpec : ChangeSpec := { name := "waterfallPours", fn := fun _ => fun
  | [d1, d2, d3] => { results := [.lit (.bool true)], args := [d1, d2, d3] }
  | _ => none }
def waterfallPoursRow : OpenClaim := { program := "ytleeifpdgnjbdaadoor", sum := "25871c36c7bbc9dcaa23be8975880bb6524a5cc8dc9750b08c8ea7556313b6d5", func := "arrears/arrearslaw9.WaterfallPours", spec := "waterfallPours", named := ["arrears/waterfall.orders"], apart := false, laid := [("arrears/waterfall.orders", laid_arrears_waterfall_orders)] }
def WaterfallPoursSaid : Prop := waterfallPoursRow.holds Tryd.pinned (OpenSpec.ofChange waterfallPoursSpec)

/-- ITS FALSE NEIGHBOUR: 'it returns false'. Refute it at one input. -/
def waterfallPoursWrong : ChangeSpec := { name := "waterfallPours", fn := fun _ => fun
  | [d1, d2, d3] => { results := [.lit (.bool false)], args := [d1, d2, d3] }
  | _ => none }
def WaterfallPoursWrongFalsely : Prop := waterfallPoursRow.holds Tryd.pinned (OpenSpec.ofChange waterfallPoursWrong)

/-- 'arrearslaw9.WaterfallTwice': WHATEVER THE INPUT: true; the input reads as it did. -/
def waterfallTwiceSpec : ChangeSpec := { name := "waterfallTwice", fn := fun _ => fun
  | [d1, d2, d3, d4] => { results := [.lit (.bool true)], args := [d1, d2, d3, d4] }
  | _ => none }
def waterfallTwiceRow : OpenClaim := { program := "ytleeifpdgnjbdaadoor", sum := "25871c36c7bbc9dcaa23be8975880bb6524a5cc8dc9750b08c8ea7556313b6d5", func := "arrears/arrearslaw9.WaterfallTwice", spec := "waterfallTwice", named := ["arrears/waterfall.orders"], apart := false, laid := [("arrears/waterfall.orders", laid_arrears_waterfall_orders)] }
def WaterfallTwiceSaid : Prop := waterfallTwiceRow.holds Tryd.pinned (OpenSpec.ofChange waterfallTwiceSpec)

/-- ITS FALSE NEIGHBOUR: 'it returns false'. Refute it at one input. -/
def waterfallTwiceWrong : ChangeSpec := { name := "waterfallTwice", fn := fun _ => fun
  | [d1, d2, d3, d4] => { results := [.lit (.bool false)], args := [d1, d2, d3, d4] }
  | _ => none }
def WaterfallTwiceWrongFalsely : Prop := waterfallTwiceRow.holds Tryd.pinned (OpenSpec.ofChange waterfallTwiceWrong)

/-- 'arrearslaw9.WaterfallBooks': WHATEVER THE INPUT: true; the input reads as it did. -/
def waterfallBooksSpec : ChangeSpec := { name := "waterfallBooks", fn := fun _ => fun
  | [d1, d2, d3, d4] => { results := [.lit (.bool true)], args := [d1, d2, d3, d4] }
  | _ => none }
def waterfallBooksRow : OpenClaim := { program := "ytleeifpdgnjbdaadoor", sum := "25871c36c7bbc9dcaa23be8975880bb6524a5cc8dc9750b08c8ea7556313b6d5", func := "arrears/arrearslaw9.WaterfallBooks", spec := "waterfallBooks", inPlace := ["math/bits.Add64", "math/bits.Sub64"], named := ["arrears/waterfall.orders", "arrears/ledger.sides"], apart := false, laid := [("arrears/waterfall.orders", laid_arrears_waterfall_orders), ("arrears/ledger.sides", laid_arrears_ledger_sides)] }
def WaterfallBooksSaid : Prop := waterfallBooksRow.holds Tryd.pinned (OpenSpec.ofChange waterfallBooksSpec)

/-- ITS FALSE NEIGHBOUR: 'it returns false'. Refute it at one input. -/
def waterfallBooksWrong : ChangeSpec := { name := "waterfallBooks", fn := fun _ => fun
  | [d1, d2, d3, d4] => { results := [.lit (.bool false)], args := [d1, d2, d3, d4] }
  | _ => none }
def WaterfallBooksWrongFalsely : Prop := waterfallBooksRow.holds Tryd.pinned (OpenSpec.ofChange waterfallBooksWrong)

/- THE SECOND FORM. 'bulk': how many values and letters a reading holds, each counted each time it is reached (what is shared counts as often as it is met; a slice's spare places count too). A statement '..UptoSaid' is the law's where the arguments, and the package variables that the reading takes, are together of bulk at most 1048576: NARROWER than '..Said'. Prove '..Said' where nothing that the law and all that it calls make is longer than what came in: it says more and counts as full. Else prove '..UptoSaid'. A law counts once. -/
mutual
def uptoBulk {H : Type} : DataW H → Nat
  | .lit (.string bytes) => bytes.length + 1
  | .lit _ => 1
  | .nil => 1
  | .ptr d => uptoBulk d + 1
  | .slice elems spare => uptoBulkAll elems + uptoBulkAll spare + 1
  | .agg parts => uptoBulkAll parts + 1
  | .iface _ d => uptoBulk d + 1
  | .map entries => uptoBulkEntries entries + 1
  | .held _ => 1
def uptoBulkAll {H : Type} : List (DataW H) → Nat
  | [] => 0
  | d :: r => uptoBulk d + uptoBulkAll r
def uptoBulkEntries {H : Type} : List (Lit × DataW H) → Nat
  | [] => 0
  | x :: r => uptoBulkEntry x + uptoBulkEntries r
def uptoBulkEntry {H : Type} : Lit × DataW H → Nat
  | (.string bytes, d) => bytes.length + uptoBulk d + 1
  | (_, d) => uptoBulk d + 1
 end
def uptoSmall : (H : Type) → List (DataW H) → Bool := fun _ ds => decide (uptoBulkAll ds ≤ 1048576)
def OpenSpec.upto (s : _root_.Go.ChangeSpec) : _root_.Go.OpenSpec := { _root_.Go.OpenSpec.ofChange s with cond := some uptoSmall }

/-- 'arrearslaw9.WaterfallAllocates', WHERE WHAT IT READS IS OF BULK AT MOST 1048576: true; the input reads as it did. -/
def waterfallAllocatesUptoRow : OpenClaim := { program := "ytleeifpdgnjbdaadoor", sum := "25871c36c7bbc9dcaa23be8975880bb6524a5cc8dc9750b08c8ea7556313b6d5", func := "arrears/arrearslaw9.WaterfallAllocates", spec := "waterfallAllocates", named := ["arrears/waterfall.orders"], apart := false, laid := [("arrears/waterfall.orders", laid_arrears_waterfall_orders)], narrowed := true }
def WaterfallAllocatesUptoSaid : Prop := waterfallAllocatesUptoRow.holds Tryd.pinned (OpenSpec.upto waterfallAllocatesSpec)

/-- 'arrearslaw9.WaterfallPours', WHERE WHAT IT READS IS OF BULK AT MOST 1048576: true; the input reads as it did. -/
def waterfallPoursUptoRow : OpenClaim := { program := "ytleeifpdgnjbdaadoor", sum := "25871c36c7bbc9dcaa23be8975880bb6524a5cc8dc9750b08c8ea7556313b6d5", func := "arrears/arrearslaw9.WaterfallPours", spec := "waterfallPours", named := ["arrears/waterfall.orders"], apart := false, laid := [("arrears/waterfall.orders", laid_arrears_waterfall_orders)], narrowed := true }
def WaterfallPoursUptoSaid : Prop := waterfallPoursUptoRow.holds Tryd.pinned (OpenSpec.upto waterfallPoursSpec)

/-- 'arrearslaw9.WaterfallTwice', WHERE WHAT IT READS IS OF BULK AT MOST 1048576: true; the input reads as it did. -/
def waterfallTwiceUptoRow : OpenClaim := { program := "ytleeifpdgnjbdaadoor", sum := "25871c36c7bbc9dcaa23be8975880bb6524a5cc8dc9750b08c8ea7556313b6d5", func := "arrears/arrearslaw9.WaterfallTwice", spec := "waterfallTwice", named := ["arrears/waterfall.orders"], apart := false, laid := [("arrears/waterfall.orders", laid_arrears_waterfall_orders)], narrowed := true }
def WaterfallTwiceUptoSaid : Prop := waterfallTwiceUptoRow.holds Tryd.pinned (OpenSpec.upto waterfallTwiceSpec)

/-- 'arrearslaw9.WaterfallBooks', WHERE WHAT IT READS IS OF BULK AT MOST 1048576: true; the input reads as it did. -/
def waterfallBooksUptoRow : OpenClaim := { program := "ytleeifpdgnjbdaadoor", sum := "25871c36c7bbc9dcaa23be8975880bb6524a5cc8dc9750b08c8ea7556313b6d5", func := "arrears/arrearslaw9.WaterfallBooks", spec := "waterfallBooks", inPlace := ["math/bits.Add64", "math/bits.Sub64"], named := ["arrears/waterfall.orders", "arrears/ledger.sides"], apart := false, laid := [("arrears/waterfall.orders", laid_arrears_waterfall_orders), ("arrears/ledger.sides", laid_arrears_ledger_sides)], narrowed := true }
def WaterfallBooksUptoSaid : Prop := waterfallBooksUptoRow.holds Tryd.pinned (OpenSpec.upto waterfallBooksSpec)

end Rows
end Go.Proofs.YtleeifpdgnjbdaaDoor
