/-
  No cell of these rows narrows 'for every input' (looked for: loops, veiled, ifaces, maps, wideKeys, modest, calm, conditions, laid).
  DERIVED. THE GIVEN ROWS OF THIS SEAT. 3 by the template 'for every input the law returns true; each argument reads behind the call as it read before'; 0 by the template 'total and deterministic' (their statements: YtleeifpdgnjbdaaTotals.lean).
  GIVEN WITH THE SEED: the statements are not yours to turn. If you find one false, say at which input.
  Laid BY PROGRAM, IN A SANDBOX (cutbox-rows.mjs): the forced cells as the released guide's own fill.sh prints them over the translation d20b9ed5f40b6c18… (all of the seat's roots in one cut). By AI agents, Wed Nov 11 2026. No macro, syntax, notation, axiom, sorry.
-/
import Derived.Test.YtleeifpdgnjbdaaChecked
import GoSem.Claim
import GoSem.ClaimJoined
import GoSem.ClaimMapViews
import Derived.JoinedTies
import Derived.KernelRfl
namespace Go.Proofs.Ytleeifpdgnjbdaa
/- THE CELL 'sum', in the pinned program and in every row, IS THE sha256 OF THE DUMP (.gsa) THAT YtleeifpdgnjbdaaProg.lean LOADS. Nothing in Lean hashes anything: it is a label: what it is worth is what the hold of that sum in a sandbox is worth. -/
noncomputable def Try.pinned : Pinned := { name := "ytleeifpdgnjbdaa", sum := "d20b9ed5f40b6c187e2e3fdfb06b9449a266a67b6565e0a75f4c8e38dcc077a3", checked := Try.checked }
namespace Rows
def none {H : Type} : Left H := { results := [], args := [] }

/-- 'arrearslaw9.WaterfallRecovers': WHATEVER THE INPUT: true; the input reads as it did. -/
def waterfallRecoversSpec : ChangeSpec := { name := "waterfallRecovers", fn := fun _ => fun
  | [d1, d2] => { results := [.lit (.bool true)], args := [d1, d2] }
  | _ => none }
def waterfallRecoversRow : OpenClaim := { program := "ytleeifpdgnjbdaa", sum := "d20b9ed5f40b6c187e2e3fdfb06b9449a266a67b6565e0a75f4c8e38dcc077a3", func := "arrears/arrearslaw9.WaterfallRecovers", spec := "waterfallRecovers", apart := false }
def WaterfallRecoversSaid : Prop := waterfallRecoversRow.holds Try.pinned (OpenSpec.ofChange waterfallRecoversSpec)

/-- ITS FALSE NEIGHBOUR: 'it returns false'. Refute it at one input. -/
def waterfallRecoversWrong : ChangeSpec := { name := "waterfallRecovers", fn := fun _ => fun
  | [d1, d2] => { results := [.lit (.bool false)], args := [d1, d2] }
  | _ => none }
def WaterfallRecoversWrongFalsely : Prop := waterfallRecoversRow.holds Try.pinned (OpenSpec.ofChange waterfallRecoversWrong)

/-- 'arrearslaw9.WaterfallMoves': WHATEVER THE INPUT: true; the input reads as it did. -/
def waterfallMovesSpec : ChangeSpec := { name := "waterfallMoves", fn := fun _ => fun
  | [d] => { results := [.lit (.bool true)], args := [d] }
  | _ => none }
def waterfallMovesRow : OpenClaim := { program := "ytleeifpdgnjbdaa", sum := "d20b9ed5f40b6c187e2e3fdfb06b9449a266a67b6565e0a75f4c8e38dcc077a3", func := "arrears/arrearslaw9.WaterfallMoves", spec := "waterfallMoves", apart := false }
def WaterfallMovesSaid : Prop := waterfallMovesRow.holds Try.pinned (OpenSpec.ofChange waterfallMovesSpec)

/-- ITS FALSE NEIGHBOUR: 'it returns false'. Refute it at one input. -/
def waterfallMovesWrong : ChangeSpec := { name := "waterfallMoves", fn := fun _ => fun
  | [d] => { results := [.lit (.bool false)], args := [d] }
  | _ => none }
def WaterfallMovesWrongFalsely : Prop := waterfallMovesRow.holds Try.pinned (OpenSpec.ofChange waterfallMovesWrong)

/-- 'arrearslaw9.WaterfallFresh': WHATEVER THE INPUT: true; the input reads as it did. -/
def waterfallFreshSpec : ChangeSpec := { name := "waterfallFresh", fn := fun _ => fun
  | [d1, d2] => { results := [.lit (.bool true)], args := [d1, d2] }
  | _ => none }
def waterfallFreshRow : OpenClaim := { program := "ytleeifpdgnjbdaa", sum := "d20b9ed5f40b6c187e2e3fdfb06b9449a266a67b6565e0a75f4c8e38dcc077a3", func := "arrears/arrearslaw9.WaterfallFresh", spec := "waterfallFresh", apart := false }
def WaterfallFreshSaid : Prop := waterfallFreshRow.holds Try.pinned (OpenSpec.ofChange waterfallFreshSpec)

/-- ITS FALSE NEIGHBOUR: 'it returns false'. Refute it at one input. -/
def waterfallFreshWrong : ChangeSpec := { name := "waterfallFresh", fn := fun _ => fun
  | [d1, d2] => { results := [.lit (.bool false)], args := [d1, d2] }
  | _ => none }
def WaterfallFreshWrongFalsely : Prop := waterfallFreshRow.holds Try.pinned (OpenSpec.ofChange waterfallFreshWrong)

/- THE SECOND FORM. 'bulk': how many values and letters a reading holds, each counted each time it is reached (what is shared counts as often as it is met; a slice's spare places count too). A statement '..UptoSaid' is the law's where the arguments, and the package variables that the reading takes, are together of bulk at most 1048576: NARROWER than '..Said'. Prove '..Said' where nothing that the law and all that it calls make is longer than what came in: it says more and counts as full. Else prove '..UptoSaid'. A law counts once. -/
mutual
def uptoBulk {H : Type} : DataW H → Nat
  | .lit (.string bytes) => bytes.length + 1
  | .lit _ => 1
  | .nil => 1
  | .ptr d => uptoBulk d + 1
  | .slice elems spare => uptoBulkAll elems + uptoBulkAll spare + 1
  | .agg parts => uptoBulkAll parts + 1
  | .iface _ d => uptoBulk d + 1
  | .map entries => uptoBulkEntries entries + 1
  | .held _ => 1
def uptoBulkAll {H : Type} : List (DataW H) → Nat
  | [] => 0
  | d :: r => uptoBulk d + uptoBulkAll r
def uptoBulkEntries {H : Type} : List (Lit × DataW H) → Nat
  | [] => 0
  | x :: r => uptoBulkEntry x + uptoBulkEntries r
def uptoBulkEntry {H : Type} : Lit × DataW H → Nat
  | (.string bytes, d) => bytes.length + uptoBulk d + 1
  | (_, d) => uptoBulk d + 1
 end
def uptoSmall : (H : Type) → List (DataW H) → Bool := fun _ ds => decide (uptoBulkAll ds ≤ 1048576)
def OpenSpec.upto (s : _root_.Go.ChangeSpec) : _root_.Go.OpenSpec := { _root_.Go.OpenSpec.ofChange s with cond := some uptoSmall }

/-- 'arrearslaw9.WaterfallRecovers', WHERE WHAT IT READS IS OF BULK AT MOST 1048576: true; the input reads as it did. -/
def waterfallRecoversUptoRow : OpenClaim := { program := "ytleeifpdgnjbdaa", sum := "d20b9ed5f40b6c187e2e3fdfb06b9449a266a67b6565e0a75f4c8e38dcc077a3", func := "arrears/arrearslaw9.WaterfallRecovers", spec := "waterfallRecovers", apart := false, narrowed := true }
def WaterfallRecoversUptoSaid : Prop := waterfallRecoversUptoRow.holds Try.pinned (OpenSpec.upto waterfallRecoversSpec)

/-- 'arrearslaw9.WaterfallMoves', WHERE WHAT IT READS IS OF BULK AT MOST 1048576: true; the input reads as it did. -/
def waterfallMovesUptoRow : OpenClaim := { program := "ytleeifpdgnjbdaa", sum := "d20b9ed5f40b6c187e2e3fdfb06b9449a266a67b6565e0a75f4c8e38dcc077a3", func := "arrears/arrearslaw9.WaterfallMoves", spec := "waterfallMoves", apart := false, narrowed := true }
def WaterfallMovesUptoSaid : Prop := waterfallMovesUptoRow.holds Try.pinned (OpenSpec.upto waterfallMovesSpec)

/-- 'arrearslaw9.WaterfallFresh', WHERE WHAT IT READS IS OF BULK AT MOST 1048576: true; the input reads as it did. -/
def waterfallFreshUptoRow : OpenClaim := { program := "ytleeifpdgnjbdaa", sum := "d20b9ed5f40b6c187e2e3fdfb06b9449a266a67b6565e0a75f4c8e38dcc077a3", func := "arrears/arrearslaw9.WaterfallFresh", spec := "waterfallFresh", apart := false, narrowed := true }
def WaterfallFreshUptoSaid : Prop := waterfallFreshUptoRow.holds Try.pinned (OpenSpec.upto waterfallFreshSpec)

end Rows
end Go.Proofs.Ytleeifpdgnjbdaa
