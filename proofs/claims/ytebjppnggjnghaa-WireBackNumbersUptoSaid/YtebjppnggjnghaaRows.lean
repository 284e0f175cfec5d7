/-
  No cell of these rows narrows 'for every input' (looked for: loops, veiled, ifaces, maps, wideKeys, modest, calm, conditions, laid).
  DERIVED. THE GIVEN ROWS OF THIS SEAT. 5 by the template 'for every input the law returns true; each argument reads behind the call as it read before'; 0 by the template 'total and deterministic' (their statements: YtebjppnggjnghaaTotals.lean).
  GIVEN WITH THE SEED: the statements are not yours to turn. If you find one false, say at which input.
  Laid BY PROGRAM, IN A SANDBOX (cutbox-rows.mjs): the forced cells as the released guide's own fill.sh prints them over the translation 25dcb6834fd7668d… (all of the seat's roots in one cut). By AI agents, Wed Nov 11 2026. No macro, syntax, notation, axiom, sorry.
-/
import Derived.Test.YtebjppnggjnghaaChecked
import GoSem.Claim
import GoSem.ClaimJoined
import GoSem.ClaimMapViews
import Derived.JoinedTies
import Derived.KernelRfl
namespace Go.Proofs.Ytebjppnggjnghaa
/- THE CELL 'sum', in the pinned program and in every row, IS THE sha256 OF THE DUMP (.gsa) THAT YtebjppnggjnghaaProg.lean LOADS. Nothing in Lean hashes anything: it is a label: what it is worth is what the hold of that sum in a sandbox is worth. -/
noncomputable def Try.pinned : Pinned := { name := "ytebjppnggjnghaa", sum := "25dcb6834fd7668d663a44e329deffc0437c5ea92dfa70c67e2e06e1b13a62f2", checked := Try.checked }
namespace Rows
def none {H : Type} : Left H := { results := [], args := [] }

/-- 'arrearslaw4.WirePutsList': WHATEVER THE INPUT: true; the input reads as it did. -/
def wirePutsListSpec : ChangeSpec := { name := "wirePutsList", fn := fun _ => fun
  | [d] => { results := [.lit (.bool true)], args := [d] }
  | _ => none }
def wirePutsListRow : OpenClaim := { program := "ytebjppnggjnghaa", sum := "25dcb6834fd7668d663a44e329deffc0437c5ea92dfa70c67e2e06e1b13a62f2", func := "arrears/arrearslaw4.WirePutsList", spec := "wirePutsList", unfollowed := true, recurses := true, apart := false }
def WirePutsListSaid : Prop := wirePutsListRow.holds Try.pinned (OpenSpec.ofChange wirePutsListSpec)

/-- ITS FALSE NEIGHBOUR: 'it returns false'. Refute it at one input. -/
def wirePutsListWrong : ChangeSpec := { name := "wirePutsList", fn := fun _ => fun
  | [d] => { results := [.lit (.bool false)], args := [d] }
  | _ => none }
def WirePutsListWrongFalsely : Prop := wirePutsListRow.holds Try.pinned (OpenSpec.ofChange wirePutsListWrong)

/-- 'arrearslaw4.WireNumbers': WHATEVER THE INPUT: true; the input reads as it did. -/
def wireNumbersSpec : ChangeSpec := { name := "wireNumbers", fn := fun _ => fun
  | [d1, d2, d3, d4] => { results := [.lit (.bool true)], args := [d1, d2, d3, d4] }
  | _ => none }
def wireNumbersRow : OpenClaim := { program := "ytebjppnggjnghaa", sum := "25dcb6834fd7668d663a44e329deffc0437c5ea92dfa70c67e2e06e1b13a62f2", func := "arrears/arrearslaw4.WireNumbers", spec := "wireNumbers", apart := false }
def WireNumbersSaid : Prop := wireNumbersRow.holds Try.pinned (OpenSpec.ofChange wireNumbersSpec)

/-- ITS FALSE NEIGHBOUR: 'it returns false'. Refute it at one input. -/
def wireNumbersWrong : ChangeSpec := { name := "wireNumbers", fn := fun _ => fun
  | [d1, d2, d3, d4] => { results := [.lit (.bool false)], args := [d1, d2, d3, d4] }
  | _ => none }
def WireNumbersWrongFalsely : Prop := wireNumbersRow.holds Try.pinned (OpenSpec.ofChange wireNumbersWrong)

/-- 'arrearslaw4.WireReadsList': WHATEVER THE INPUT: true; the input reads as it did. -/
def wireReadsListSpec : ChangeSpec := { name := "wireReadsList", fn := fun _ => fun
  | [d1, d2] => { results := [.lit (.bool true)], args := [d1, d2] }
  | _ => none }
def wireReadsListRow : OpenClaim := { program := "ytebjppnggjnghaa", sum := "25dcb6834fd7668d663a44e329deffc0437c5ea92dfa70c67e2e06e1b13a62f2", func := "arrears/arrearslaw4.WireReadsList", spec := "wireReadsList", unfollowed := true, recurses := true, apart := false }
def WireReadsListSaid : Prop := wireReadsListRow.holds Try.pinned (OpenSpec.ofChange wireReadsListSpec)

/-- ITS FALSE NEIGHBOUR: 'it returns false'. Refute it at one input. -/
def wireReadsListWrong : ChangeSpec := { name := "wireReadsList", fn := fun _ => fun
  | [d1, d2] => { results := [.lit (.bool false)], args := [d1, d2] }
  | _ => none }
def WireReadsListWrongFalsely : Prop := wireReadsListRow.holds Try.pinned (OpenSpec.ofChange wireReadsListWrong)

/-- 'arrearslaw4.WireBackNumbers': WHATEVER THE INPUT: true; the input reads as it did. -/
def wireBackNumbersSpec : ChangeSpec := { name := "wireBackNumbers", fn := fun _ => fun
  | [d1, d2, d3, d4, d5, d6, d7] => { results := [.lit (.bool true)], args := [d1, d2, d3, d4, d5, d6, d7] }
  | _ => none }
def wireBackNumbersRow : OpenClaim := { program := "ytebjppnggjnghaa", sum := "25dcb6834fd7668d663a44e329deffc0437c5ea92dfa70c67e2e06e1b13a62f2", func := "arrears/arrearslaw4.WireBackNumbers", spec := "wireBackNumbers", unfollowed := true, recurses := true, apart := false }
def WireBackNumbersSaid : Prop := wireBackNumbersRow.holds Try.pinned (OpenSpec.ofChange wireBackNumbersSpec)

/-- ITS FALSE NEIGHBOUR: 'it returns false'. Refute it at one input. -/
def wireBackNumbersWrong : ChangeSpec := { name := "wireBackNumbers", fn := fun _ => fun
  | [d1, d2, d3, d4, d5, d6, d7] => { results := [.lit (.bool false)], args := [d1, d2, d3, d4, d5, d6, d7] }
  | _ => none }
def WireBackNumbersWrongFalsely : Prop := wireBackNumbersRow.holds Try.pinned (OpenSpec.ofChange wireBackNumbersWrong)

/-- 'arrearslaw4.WireStates': WHATEVER THE INPUT: true; the input reads as it did. -/
def wireStatesSpec : ChangeSpec := { name := "wireStates", fn := fun _ => fun
  | [d1, d2] => { results := [.lit (.bool true)], args := [d1, d2] }
  | _ => none }
def wireStatesRow : OpenClaim := { program := "ytebjppnggjnghaa", sum := "25dcb6834fd7668d663a44e329deffc0437c5ea92dfa70c67e2e06e1b13a62f2", func := "arrears/arrearslaw4.WireStates", spec := "wireStates", unfollowed := true, recurses := true, apart := false }
def WireStatesSaid : Prop := wireStatesRow.holds Try.pinned (OpenSpec.ofChange wireStatesSpec)

/-- ITS FALSE NEIGHBOUR: 'it returns false'. Refute it at one input. -/
def wireStatesWrong : ChangeSpec := { name := "wireStates", fn := fun _ => fun
  | [d1, d2] => { results := [.lit (.bool false)], args := [d1, d2] }
  | _ => none }
def WireStatesWrongFalsely : Prop := wireStatesRow.holds Try.pinned (OpenSpec.ofChange wireStatesWrong)

/- THE SECOND FORM. 'bulk': how many values and letters a reading holds, each counted each time it is reached (what is shared counts as often as it is met; a slice's spare places count too). A statement '..UptoSaid' is the law's where the arguments, and the package variables that the reading takes, are together of bulk at most 1048576: NARROWER than '..Said'. Prove '..Said' where nothing that the law and all that it calls make is longer than what came in: it says more and counts as full. Else prove '..UptoSaid'. A law counts once. -/
mutual
def uptoBulk {H : Type} : DataW H → Nat
  | .lit (.string bytes) => bytes.length + 1
  | .lit _ => 1
  | .nil => 1
  | .ptr d => uptoBulk d + 1
  | .slice elems spare => uptoBulkAll elems + uptoBulkAll spare + 1
  | .agg parts => uptoBulkAll parts + 1
  | .iface _ d => uptoBulk d + 1
  | .map entries => uptoBulkEntries entries + 1
  | .held _ => 1
def uptoBulkAll {H : Type} : List (DataW H) → Nat
  | [] => 0
  | d :: r => uptoBulk d + uptoBulkAll r
def uptoBulkEntries {H : Type} : List (Lit × DataW H) → Nat
  | [] => 0
  | x :: r => uptoBulkEntry x + uptoBulkEntries r
def uptoBulkEntry {H : Type} : Lit × DataW H → Nat
  | (.string bytes, d) => bytes.length + uptoBulk d + 1
  | (_, d) => uptoBulk d + 1
 end
def uptoSmall : (H : Type) → List (DataW H) → Bool := fun _ ds => decide (uptoBulkAll ds ≤ 1048576)
def OpenSpec.upto (s : _root_.Go.ChangeSpec) : _root_.Go.OpenSpec := { _root_.Go.OpenSpec.ofChange s with cond := some uptoSmall }

/-- 'arrearslaw4.WirePutsList', WHERE WHAT IT READS IS OF BULK AT MOST 1048576: true; the input reads as it did. -/
def wirePutsListUptoRow : OpenClaim := { program := "ytebjppnggjnghaa", sum := "25dcb6834fd7668d663a44e329deffc0437c5ea92dfa70c67e2e06e1b13a62f2", func := "arrears/arrearslaw4.WirePutsList", spec := "wirePutsList", unfollowed := true, recurses := true, apart := false, narrowed := true }
def WirePutsListUptoSaid : Prop := wirePutsListUptoRow.holds Try.pinned (OpenSpec.upto wirePutsListSpec)

/-- 'arrearslaw4.WireNumbers', WHERE WHAT IT READS IS OF BULK AT MOST 1048576: true; the input reads as it did. -/
def wireNumbersUptoRow : OpenClaim := { program := "ytebjppnggjnghaa", sum := "25dcb6834fd7668d663a44e329deffc0437c5ea92dfa70c67e2e06e1b13a62f2", func := "arrears/arrearslaw4.WireNumbers", spec := "wireNumbers", apart := false, narrowed := true }
def WireNumbersUptoSaid : Prop := wireNumbersUptoRow.holds Try.pinned (OpenSpec.upto wireNumbersSpec)

/-- 'arrearslaw4.WireReadsList', WHERE WHAT IT READS IS OF BULK AT MOST 1048576: true; the input reads as it did. -/
def wireReadsListUptoRow : OpenClaim := { program := "ytebjppnggjnghaa", sum := "25dcb6834fd7668d663a44e329deffc0437c5ea92dfa70c67e2e06e1b13a62f2", func := "arrears/arrearslaw4.WireReadsList", spec := "wireReadsList", unfollowed := true, recurses := true, apart := false, narrowed := true }
def WireReadsListUptoSaid : Prop := wireReadsListUptoRow.holds Try.pinned (OpenSpec.upto wireReadsListSpec)

/-- 'arrearslaw4.WireBackNumbers', WHERE WHAT IT READS IS OF BULK AT MOST 1048576: true; the input reads as it did. -/
def wireBackNumbersUptoRow : OpenClaim := { program := "ytebjppnggjnghaa", sum := "25dcb6834fd7668d663a44e329deffc0437c5ea92dfa70c67e2e06e1b13a62f2", func := "arrears/arrearslaw4.WireBackNumbers", spec := "wireBackNumbers", unfollowed := true, recurses := true, apart := false, narrowed := true }
def WireBackNumbersUptoSaid : Prop := wireBackNumbersUptoRow.holds Try.pinned (OpenSpec.upto wireBackNumbersSpec)

/-- 'arrearslaw4.WireStates', WHERE WHAT IT READS IS OF BULK AT MOST 1048576: true; the input reads as it did. -/
def wireStatesUptoRow : OpenClaim := { program := "ytebjppnggjnghaa", sum := "25dcb6834fd7668d663a44e329deffc0437c5ea92dfa70c67e2e06e1b13a62f2", func := "arrears/arrearslaw4.WireStates", spec := "wireStates", unfollowed := true, recurses := true, apart := false, narrowed := true }
def WireStatesUptoSaid : Prop := wireStatesUptoRow.holds Try.pinned (OpenSpec.upto wireStatesSpec)

end Rows
end Go.Proofs.Ytebjppnggjnghaa
