/-
  No cell of these rows narrows 'for every input' (looked for: loops, veiled, ifaces, maps, wideKeys, modest, calm, conditions, laid).
  DERIVED. THE GIVEN ROWS OF THIS SEAT. 4 by the template 'for every input the law returns true; each argument reads behind the call as it read before'; 0 by the template 'total and deterministic' (their statements: YtmppfpdaglkhkaaTotals.lean).
  GIVEN WITH THE SEED: the statements are not yours to turn. If you find one false, say at which input.
  Laid BY PROGRAM, IN A SANDBOX (cutbox-rows.mjs): the forced cells as the released guide's own fill.sh prints them over the translation 1dc285f10a7d3fb7… (all of the seat's roots in one cut). By AI agents, Wed Nov 11 2026. No macro, syntax, notation, axiom, sorry.
-/
import Derived.Test.YtmppfpdaglkhkaaChecked
import GoSem.Claim
import GoSem.ClaimJoined
import GoSem.ClaimMapViews
import Derived.JoinedTies
import Derived.KernelRfl
namespace Go.Proofs.Ytmppfpdaglkhkaa
/- THE CELL 'sum', in the pinned program and in every row, IS THE sha256 OF THE DUMP (.gsa) THAT YtmppfpdaglkhkaaProg.lean LOADS. Nothing in Lean hashes anything: it is a label: what it is worth is what the hold of that sum in a sandbox is worth. -/
noncomputable def Try.pinned : Pinned := { name := "ytmppfpdaglkhkaa", sum := "1dc285f10a7d3fb751bf66ceb68c2f561d8e4b60c95cddfb45308d54ed11eab4", checked := Try.checked }
namespace Rows
def none {H : Type} : Left H := { results := [], args := [] }

/-- 'arrearslaw8.LedgerReverses': WHATEVER THE INPUT: true; the input reads as it did. -/
def ledgerReversesSpec : ChangeSpec := { name := "ledgerReverses", fn := fun _ => fun
  | [d] => { results := [.lit (.bool true)], args := [d] }
  | _ => none }
def ledgerReversesRow : OpenClaim := { program := "ytmppfpdaglkhkaa", sum := "1dc285f10a7d3fb751bf66ceb68c2f561d8e4b60c95cddfb45308d54ed11eab4", func := "arrears/arrearslaw8.LedgerReverses", spec := "ledgerReverses", apart := false }
def LedgerReversesSaid : Prop := ledgerReversesRow.holds Try.pinned (OpenSpec.ofChange ledgerReversesSpec)

/-- ITS FALSE NEIGHBOUR: 'it returns false'. Refute it at one input. -/
def ledgerReversesWrong : ChangeSpec := { name := "ledgerReverses", fn := fun _ => fun
  | [d] => { results := [.lit (.bool false)], args := [d] }
  | _ => none }
def LedgerReversesWrongFalsely : Prop := ledgerReversesRow.holds Try.pinned (OpenSpec.ofChange ledgerReversesWrong)

/-- 'arrearslaw8.LedgerTotals': WHATEVER THE INPUT: true; the input reads as it did. -/
def ledgerTotalsSpec : ChangeSpec := { name := "ledgerTotals", fn := fun _ => fun
  | [d] => { results := [.lit (.bool true)], args := [d] }
  | _ => none }
def ledgerTotalsRow : OpenClaim := { program := "ytmppfpdaglkhkaa", sum := "1dc285f10a7d3fb751bf66ceb68c2f561d8e4b60c95cddfb45308d54ed11eab4", func := "arrears/arrearslaw8.LedgerTotals", spec := "ledgerTotals", inPlace := ["math/bits.Add64"], apart := false }
def LedgerTotalsSaid : Prop := ledgerTotalsRow.holds Try.pinned (OpenSpec.ofChange ledgerTotalsSpec)

/-- ITS FALSE NEIGHBOUR: 'it returns false'. Refute it at one input. -/
def ledgerTotalsWrong : ChangeSpec := { name := "ledgerTotals", fn := fun _ => fun
  | [d] => { results := [.lit (.bool false)], args := [d] }
  | _ => none }
def LedgerTotalsWrongFalsely : Prop := ledgerTotalsRow.holds Try.pinned (OpenSpec.ofChange ledgerTotalsWrong)

/-- 'arrearslaw8.LedgerAddsUp': WHATEVER THE INPUT: true; the input reads as it did. -/
def ledgerAddsUpSpec : ChangeSpec := { name := "ledgerAddsUp", fn := fun _ => fun
  | [d1, d2] => { results := [.lit (.bool true)], args := [d1, d2] }
  | _ => none }
def ledgerAddsUpRow : OpenClaim := { program := "ytmppfpdaglkhkaa", sum := "1dc285f10a7d3fb751bf66ceb68c2f561d8e4b60c95cddfb45308d54ed11eab4", func := "arrears/arrearslaw8.LedgerAddsUp", spec := "ledgerAddsUp", inPlace := ["math/bits.Add64"], apart := false }
def LedgerAddsUpSaid : Prop := ledgerAddsUpRow.holds Try.pinned (OpenSpec.ofChange ledgerAddsUpSpec)

/-- ITS FALSE NEIGHBOUR: 'it returns false'. Refute it at one input. -/
def ledgerAddsUpWrong : ChangeSpec := { name := "ledgerAddsUp", fn := fun _ => fun
  | [d1, d2] => { results := [.lit (.bool false)], args := [d1, d2] }
  | _ => none }
def LedgerAddsUpWrongFalsely : Prop := ledgerAddsUpRow.holds Try.pinned (OpenSpec.ofChange ledgerAddsUpWrong)

/-- 'arrearslaw8.LedgerTrials': WHATEVER THE INPUT: true; the input reads as it did. -/
def ledgerTrialsSpec : ChangeSpec := { name := "ledgerTrials", fn := fun _ => fun
  | [d] => { results := [.lit (.bool true)], args := [d] }
  | _ => none }
def ledgerTrialsRow : OpenClaim := { program := "ytmppfpdaglkhkaa", sum := "1dc285f10a7d3fb751bf66ceb68c2f561d8e4b60c95cddfb45308d54ed11eab4", func := "arrears/arrearslaw8.LedgerTrials", spec := "ledgerTrials", inPlace := ["math/bits.Add64", "math/bits.Sub64"], apart := false }
def LedgerTrialsSaid : Prop := ledgerTrialsRow.holds Try.pinned (OpenSpec.ofChange ledgerTrialsSpec)

/-- ITS FALSE NEIGHBOUR: 'it returns false'. Refute it at one input. -/
def ledgerTrialsWrong : ChangeSpec := { name := "ledgerTrials", fn := fun _ => fun
  | [d] => { results := [.lit (.bool false)], args := [d] }
  | _ => none }
def LedgerTrialsWrongFalsely : Prop := ledgerTrialsRow.holds Try.pinned (OpenSpec.ofChange ledgerTrialsWrong)

/- THE SECOND FORM. 'bulk': how many values and letters a reading holds, each counted each time it is reached (what is shared counts as often as it is met; a slice's spare places count too). A statement '..UptoSaid' is the law's where the arguments, and the package variables that the reading takes, are together of bulk at most 1048576: NARROWER than '..Said'. Prove '..Said' where nothing that the law and all that it calls make is longer than what came in: it says more and counts as full. Else prove '..UptoSaid'. A law counts once. -/
mutual
def uptoBulk {H : Type} : DataW H → Nat
  | .lit (.string bytes) => bytes.length + 1
  | .lit _ => 1
  | .nil => 1
  | .ptr d => uptoBulk d + 1
  | .slice elems spare => uptoBulkAll elems + uptoBulkAll spare + 1
  | .agg parts => uptoBulkAll parts + 1
  | .iface _ d => uptoBulk d + 1
  | .map entries => uptoBulkEntries entries + 1
  | .held _ => 1
def uptoBulkAll {H : Type} : List (DataW H) → Nat
  | [] => 0
  | d :: r => uptoBulk d + uptoBulkAll r
def uptoBulkEntries {H : Type} : List (Lit × DataW H) → Nat
  | [] => 0
  | x :: r => uptoBulkEntry x + uptoBulkEntries r
def uptoBulkEntry {H : Type} : Lit × DataW H → Nat
  | (.string bytes, d) => bytes.length + uptoBulk d + 1
  | (_, d) => uptoBulk d + 1
 end
def uptoSmall : (H : Type) → List (DataW H) → Bool := fun _ ds => decide (uptoBulkAll ds ≤ 1048576)
def OpenSpec.upto (s : _root_.Go.ChangeSpec) : _root_.Go.OpenSpec := { _root_.Go.OpenSpec.ofChange s with cond := some uptoSmall }

/-- 'arrearslaw8.LedgerReverses', WHERE WHAT IT READS IS OF BULK AT MOST 1048576: true; the input reads as it did. -/
def ledgerReversesUptoRow : OpenClaim := { program := "ytmppfpdaglkhkaa", sum := "1dc285f10a7d3fb751bf66ceb68c2f561d8e4b60c95cddfb45308d54ed11eab4", func := "arrears/arrearslaw8.LedgerReverses", spec := "ledgerReverses", apart := false, narrowed := true }
def LedgerReversesUptoSaid : Prop := ledgerReversesUptoRow.holds Try.pinned (OpenSpec.upto ledgerReversesSpec)

/-- 'arrearslaw8.LedgerTotals', WHERE WHAT IT READS IS OF BULK AT MOST 1048576: true; the input reads as it did. -/
def ledgerTotalsUptoRow : OpenClaim := { program := "ytmppfpdaglkhkaa", sum := "1dc285f10a7d3fb751bf66ceb68c2f561d8e4b60c95cddfb45308d54ed11eab4", func := "arrears/arrearslaw8.LedgerTotals", spec := "ledgerTotals", inPlace := ["math/bits.Add64"], apart := false, narrowed := true }
def LedgerTotalsUptoSaid : Prop := ledgerTotalsUptoRow.holds Try.pinned (OpenSpec.upto ledgerTotalsSpec)

/-- 'arrearslaw8.LedgerAddsUp', WHERE WHAT IT READS IS OF BULK AT MOST 1048576: true; the input reads as it did. -/
def ledgerAddsUpUptoRow : OpenClaim := { program := "ytmppfpdaglkhkaa", sum := "1dc285f10a7d3fb751bf66ceb68c2f561d8e4b60c95cddfb45308d54ed11eab4", func := "arrears/arrearslaw8.LedgerAddsUp", spec := "ledgerAddsUp", inPlace := ["math/bits.Add64"], apart := false, narrowed := true }
def LedgerAddsUpUptoSaid : Prop := ledgerAddsUpUptoRow.holds Try.pinned (OpenSpec.upto ledgerAddsUpSpec)

/-- 'arrearslaw8.LedgerTrials', WHERE WHAT IT READS IS OF BULK AT MOST 1048576: true; the input reads as it did. -/
def ledgerTrialsUptoRow : OpenClaim := { program := "ytmppfpdaglkhkaa", sum := "1dc285f10a7d3fb751bf66ceb68c2f561d8e4b60c95cddfb45308d54ed11eab4", func := "arrears/arrearslaw8.LedgerTrials", spec := "ledgerTrials", inPlace := ["math/bits.Add64", "math/bits.Sub64"], apart := false, narrowed := true }
def LedgerTrialsUptoSaid : Prop := ledgerTrialsUptoRow.holds Try.pinned (OpenSpec.upto ledgerTrialsSpec)

end Rows
end Go.Proofs.Ytmppfpdaglkhkaa
