/-
  No cell of these rows narrows 'for every input' (looked for: loops, veiled, ifaces, maps, wideKeys, modest, calm, conditions, laid).
  DERIVED. THE GIVEN ROWS OF THIS SEAT. 8 by the template 'for every input the law returns true; each argument reads behind the call as it read before'; 0 by the template 'total and deterministic' (their statements: YticokogggepfoaaTotals.lean).
  GIVEN WITH THE SEED: the statements are not yours to turn. If you find one false, say at which input.
  Laid BY PROGRAM, IN A SANDBOX (cutbox-rows.mjs): the forced cells as the released guide's own fill.sh prints them over the translation 5e0a226d94722c07… (all of the seat's roots in one cut). By AI agents, Wed Nov 11 2026. No macro, syntax, notation, axiom, sorry.
-/
import Derived.Test.YticokogggepfoaaChecked
import GoSem.Claim
import GoSem.ClaimJoined
import GoSem.ClaimMapViews
import Derived.JoinedTies
import Derived.KernelRfl
namespace Go.Proofs.Yticokogggepfoaa
/- THE CELL 'sum', in the pinned program and in every row, IS THE sha256 OF THE DUMP (.gsa) THAT YticokogggepfoaaProg.lean LOADS. Nothing in Lean hashes anything: it is a label: what it is worth is what the hold of that sum in a sandbox is worth. -/
noncomputable def Try.pinned : Pinned := { name := "yticokogggepfoaa", sum := "5e0a226d94722c0713c03adb2227bffda4dccb3e51142ee7a7d2a6a5bb38193e", checked := Try.checked }
namespace Rows
def none {H : Type} : Left H := { results := [], args := [] }

/-- 'arrearslaw5.DiskCountdown': WHATEVER THE INPUT: true; the input reads as it did. -/
def diskCountdownSpec : ChangeSpec := { name := "diskCountdown", fn := fun _ => fun
  | [d1, d2, d3] => { results := [.lit (.bool true)], args := [d1, d2, d3] }
  | _ => none }
def diskCountdownRow : OpenClaim := { program := "yticokogggepfoaa", sum := "5e0a226d94722c0713c03adb2227bffda4dccb3e51142ee7a7d2a6a5bb38193e", func := "arrears/arrearslaw5.DiskCountdown", spec := "diskCountdown", apart := false }
def DiskCountdownSaid : Prop := diskCountdownRow.holds Try.pinned (OpenSpec.ofChange diskCountdownSpec)

/-- ITS FALSE NEIGHBOUR: 'it returns false'. Refute it at one input. -/
def diskCountdownWrong : ChangeSpec := { name := "diskCountdown", fn := fun _ => fun
  | [d1, d2, d3] => { results := [.lit (.bool false)], args := [d1, d2, d3] }
  | _ => none }
def DiskCountdownWrongFalsely : Prop := diskCountdownRow.holds Try.pinned (OpenSpec.ofChange diskCountdownWrong)

/-- 'arrearslaw5.DiskSurvives': WHATEVER THE INPUT: true; the input reads as it did. -/
def diskSurvivesSpec : ChangeSpec := { name := "diskSurvives", fn := fun _ => fun
  | [d1, d2, d3] => { results := [.lit (.bool true)], args := [d1, d2, d3] }
  | _ => none }
def diskSurvivesRow : OpenClaim := { program := "yticokogggepfoaa", sum := "5e0a226d94722c0713c03adb2227bffda4dccb3e51142ee7a7d2a6a5bb38193e", func := "arrears/arrearslaw5.DiskSurvives", spec := "diskSurvives", apart := false }
def DiskSurvivesSaid : Prop := diskSurvivesRow.holds Try.pinned (OpenSpec.ofChange diskSurvivesSpec)

/-- ITS FALSE NEIGHBOUR: 'it returns false'. Refute it at one input. -/
def diskSurvivesWrong : ChangeSpec := { name := "diskSurvives", fn := fun _ => fun
  | [d1, d2, d3] => { results := [.lit (.bool false)], args := [d1, d2, d3] }
  | _ => none }
def DiskSurvivesWrongFalsely : Prop := diskSurvivesRow.holds Try.pinned (OpenSpec.ofChange diskSurvivesWrong)

/-- 'arrearslaw5.DiskAppends': WHATEVER THE INPUT: true; the input reads as it did. -/
def diskAppendsSpec : ChangeSpec := { name := "diskAppends", fn := fun _ => fun
  | [d1, d2, d3] => { results := [.lit (.bool true)], args := [d1, d2, d3] }
  | _ => none }
def diskAppendsRow : OpenClaim := { program := "yticokogggepfoaa", sum := "5e0a226d94722c0713c03adb2227bffda4dccb3e51142ee7a7d2a6a5bb38193e", func := "arrears/arrearslaw5.DiskAppends", spec := "diskAppends", apart := false }
def DiskAppendsSaid : Prop := diskAppendsRow.holds Try.pinned (OpenSpec.ofChange diskAppendsSpec)

/-- ITS FALSE NEIGHBOUR: 'it returns false'. Refute it at one input. -/
def diskAppendsWrong : ChangeSpec := { name := "diskAppends", fn := fun _ => fun
  | [d1, d2, d3] => { results := [.lit (.bool false)], args := [d1, d2, d3] }
  | _ => none }
def DiskAppendsWrongFalsely : Prop := diskAppendsRow.holds Try.pinned (OpenSpec.ofChange diskAppendsWrong)

/-- 'arrearslaw5.DiskTruncates': WHATEVER THE INPUT: true; the input reads as it did. -/
def diskTruncatesSpec : ChangeSpec := { name := "diskTruncates", fn := fun _ => fun
  | [d1, d2, d3] => { results := [.lit (.bool true)], args := [d1, d2, d3] }
  | _ => none }
def diskTruncatesRow : OpenClaim := { program := "yticokogggepfoaa", sum := "5e0a226d94722c0713c03adb2227bffda4dccb3e51142ee7a7d2a6a5bb38193e", func := "arrears/arrearslaw5.DiskTruncates", spec := "diskTruncates", apart := false }
def DiskTruncatesSaid : Prop := diskTruncatesRow.holds Try.pinned (OpenSpec.ofChange diskTruncatesSpec)

/-- ITS FALSE NEIGHBOUR: 'it returns false'. Refute it at one input. -/
def diskTruncatesWrong : ChangeSpec := { name := "diskTruncates", fn := fun _ => fun
  | [d1, d2, d3] => { results := [.lit (.bool false)], args := [d1, d2, d3] }
  | _ => none }
def DiskTruncatesWrongFalsely : Prop := diskTruncatesRow.holds Try.pinned (OpenSpec.ofChange diskTruncatesWrong)

/-- 'arrearslaw5.DiskReads': WHATEVER THE INPUT: true; the input reads as it did. -/
def diskReadsSpec : ChangeSpec := { name := "diskReads", fn := fun _ => fun
  | [d1, d2, d3] => { results := [.lit (.bool true)], args := [d1, d2, d3] }
  | _ => none }
def diskReadsRow : OpenClaim := { program := "yticokogggepfoaa", sum := "5e0a226d94722c0713c03adb2227bffda4dccb3e51142ee7a7d2a6a5bb38193e", func := "arrears/arrearslaw5.DiskReads", spec := "diskReads", apart := false }
def DiskReadsSaid : Prop := diskReadsRow.holds Try.pinned (OpenSpec.ofChange diskReadsSpec)

/-- ITS FALSE NEIGHBOUR: 'it returns false'. Refute it at one input. -/
def diskReadsWrong : ChangeSpec := { name := "diskReads", fn := fun _ => fun
  | [d1, d2, d3] => { results := [.lit (.bool false)], args := [d1, d2, d3] }
  | _ => none }
def DiskReadsWrongFalsely : Prop := diskReadsRow.holds Try.pinned (OpenSpec.ofChange diskReadsWrong)

/-- 'arrearslaw5.DiskDurables': WHATEVER THE INPUT: true; the input reads as it did. -/
def diskDurablesSpec : ChangeSpec := { name := "diskDurables", fn := fun _ => fun
  | [d1, d2, d3] => { results := [.lit (.bool true)], args := [d1, d2, d3] }
  | _ => none }
def diskDurablesRow : OpenClaim := { program := "yticokogggepfoaa", sum := "5e0a226d94722c0713c03adb2227bffda4dccb3e51142ee7a7d2a6a5bb38193e", func := "arrears/arrearslaw5.DiskDurables", spec := "diskDurables", apart := false }
def DiskDurablesSaid : Prop := diskDurablesRow.holds Try.pinned (OpenSpec.ofChange diskDurablesSpec)

/-- ITS FALSE NEIGHBOUR: 'it returns false'. Refute it at one input. -/
def diskDurablesWrong : ChangeSpec := { name := "diskDurables", fn := fun _ => fun
  | [d1, d2, d3] => { results := [.lit (.bool false)], args := [d1, d2, d3] }
  | _ => none }
def DiskDurablesWrongFalsely : Prop := diskDurablesRow.holds Try.pinned (OpenSpec.ofChange diskDurablesWrong)

/-- 'arrearslaw5.DiskExact': WHATEVER THE INPUT: true; the input reads as it did. -/
def diskExactSpec : ChangeSpec := { name := "diskExact", fn := fun _ => fun
  | [d1, d2, d3] => { results := [.lit (.bool true)], args := [d1, d2, d3] }
  | _ => none }
def diskExactRow : OpenClaim := { program := "yticokogggepfoaa", sum := "5e0a226d94722c0713c03adb2227bffda4dccb3e51142ee7a7d2a6a5bb38193e", func := "arrears/arrearslaw5.DiskExact", spec := "diskExact", apart := false }
def DiskExactSaid : Prop := diskExactRow.holds Try.pinned (OpenSpec.ofChange diskExactSpec)

/-- ITS FALSE NEIGHBOUR: 'it returns false'. Refute it at one input. -/
def diskExactWrong : ChangeSpec := { name := "diskExact", fn := fun _ => fun
  | [d1, d2, d3] => { results := [.lit (.bool false)], args := [d1, d2, d3] }
  | _ => none }
def DiskExactWrongFalsely : Prop := diskExactRow.holds Try.pinned (OpenSpec.ofChange diskExactWrong)

/-- 'arrearslaw5.DiskForgets': WHATEVER THE INPUT: true; the input reads as it did. -/
def diskForgetsSpec : ChangeSpec := { name := "diskForgets", fn := fun _ => fun
  | [d1, d2, d3, d4] => { results := [.lit (.bool true)], args := [d1, d2, d3, d4] }
  | _ => none }
def diskForgetsRow : OpenClaim := { program := "yticokogggepfoaa", sum := "5e0a226d94722c0713c03adb2227bffda4dccb3e51142ee7a7d2a6a5bb38193e", func := "arrears/arrearslaw5.DiskForgets", spec := "diskForgets", apart := false }
def DiskForgetsSaid : Prop := diskForgetsRow.holds Try.pinned (OpenSpec.ofChange diskForgetsSpec)

/-- ITS FALSE NEIGHBOUR: 'it returns false'. Refute it at one input. -/
def diskForgetsWrong : ChangeSpec := { name := "diskForgets", fn := fun _ => fun
  | [d1, d2, d3, d4] => { results := [.lit (.bool false)], args := [d1, d2, d3, d4] }
  | _ => none }
def DiskForgetsWrongFalsely : Prop := diskForgetsRow.holds Try.pinned (OpenSpec.ofChange diskForgetsWrong)

/- THE SECOND FORM. 'bulk': how many values and letters a reading holds, each counted each time it is reached (what is shared counts as often as it is met; a slice's spare places count too). A statement '..UptoSaid' is the law's where the arguments, and the package variables that the reading takes, are together of bulk at most 1048576: NARROWER than '..Said'. Prove '..Said' where nothing that the law and all that it calls make is longer than what came in: it says more and counts as full. Else prove '..UptoSaid'. A law counts once. -/
mutual
def uptoBulk {H : Type} : DataW H → Nat
  | .lit (.string bytes) => bytes.length + 1
  | .lit _ => 1
  | .nil => 1
  | .ptr d => uptoBulk d + 1
  | .slice elems spare => uptoBulkAll elems + uptoBulkAll spare + 1
  | .agg parts => uptoBulkAll parts + 1
  | .iface _ d => uptoBulk d + 1
  | .map entries => uptoBulkEntries entries + 1
  | .held _ => 1
def uptoBulkAll {H : Type} : List (DataW H) → Nat
  | [] => 0
  | d :: r => uptoBulk d + uptoBulkAll r
def uptoBulkEntries {H : Type} : List (Lit × DataW H) → Nat
  | [] => 0
  | x :: r => uptoBulkEntry x + uptoBulkEntries r
def uptoBulkEntry {H : Type} : Lit × DataW H → Nat
  | (.string bytes, d) => bytes.length + uptoBulk d + 1
  | (_, d) => uptoBulk d + 1
 end
def uptoSmall : (H : Type) → List (DataW H) → Bool := fun _ ds => decide (uptoBulkAll ds ≤ 1048576)
def OpenSpec.upto (s : _root_.Go.ChangeSpec) : _root_.Go.OpenSpec := { _root_.Go.OpenSpec.ofChange s with cond := some uptoSmall }

/-- 'arrearslaw5.DiskCountdown', WHERE WHAT IT READS IS OF BULK AT MOST 1048576: true; the input reads as it did. -/
def diskCountdownUptoRow : OpenClaim := { program := "yticokogggepfoaa", sum := "5e0a226d94722c0713c03adb2227bffda4dccb3e51142ee7a7d2a6a5bb38193e", func := "arrears/arrearslaw5.DiskCountdown", spec := "diskCountdown", apart := false, narrowed := true }
def DiskCountdownUptoSaid : Prop := diskCountdownUptoRow.holds Try.pinned (OpenSpec.upto diskCountdownSpec)

/-- 'arrearslaw5.DiskSurvives', WHERE WHAT IT READS IS OF BULK AT MOST 1048576: true; the input reads as it did. -/
def diskSurvivesUptoRow : OpenClaim := { program := "yticokogggepfoaa", sum := "5e0a226d94722c0713c03adb2227bffda4dccb3e51142ee7a7d2a6a5bb38193e", func := "arrears/arrearslaw5.DiskSurvives", spec := "diskSurvives", apart := false, narrowed := true }
def DiskSurvivesUptoSaid : Prop := diskSurvivesUptoRow.holds Try.pinned (OpenSpec.upto diskSurvivesSpec)

/-- 'arrearslaw5.DiskAppends', WHERE WHAT IT READS IS OF BULK AT MOST 1048576: true; the input reads as it did. -/
def diskAppendsUptoRow : OpenClaim := { program := "yticokogggepfoaa", sum := "5e0a226d94722c0713c03adb2227bffda4dccb3e51142ee7a7d2a6a5bb38193e", func := "arrears/arrearslaw5.DiskAppends", spec := "diskAppends", apart := false, narrowed := true }
def DiskAppendsUptoSaid : Prop := diskAppendsUptoRow.holds Try.pinned (OpenSpec.upto diskAppendsSpec)

/-- 'arrearslaw5.DiskTruncates', WHERE WHAT IT READS IS OF BULK AT MOST 1048576: true; the input reads as it did. -/
def diskTruncatesUptoRow : OpenClaim := { program := "yticokogggepfoaa", sum := "5e0a226d94722c0713c03adb2227bffda4dccb3e51142ee7a7d2a6a5bb38193e", func := "arrears/arrearslaw5.DiskTruncates", spec := "diskTruncates", apart := false, narrowed := true }
def DiskTruncatesUptoSaid : Prop := diskTruncatesUptoRow.holds Try.pinned (OpenSpec.upto diskTruncatesSpec)

/-- 'arrearslaw5.DiskReads', WHERE WHAT IT READS IS OF BULK AT MOST 1048576: true; the input reads as it did. -/
def diskReadsUptoRow : OpenClaim := { program := "yticokogggepfoaa", sum := "5e0a226d94722c0713c03adb2227bffda4dccb3e51142ee7a7d2a6a5bb38193e", func := "arrears/arrearslaw5.DiskReads", spec := "diskReads", apart := false, narrowed := true }
def DiskReadsUptoSaid : Prop := diskReadsUptoRow.holds Try.pinned (OpenSpec.upto diskReadsSpec)

/-- 'arrearslaw5.DiskDurables', WHERE WHAT IT READS IS OF BULK AT MOST 1048576: true; the input reads as it did. -/
def diskDurablesUptoRow : OpenClaim := { program := "yticokogggepfoaa", sum := "5e0a226d94722c0713c03adb2227bffda4dccb3e51142ee7a7d2a6a5bb38193e", func := "arrears/arrearslaw5.DiskDurables", spec := "diskDurables", apart := false, narrowed := true }
def DiskDurablesUptoSaid : Prop := diskDurablesUptoRow.holds Try.pinned (OpenSpec.upto diskDurablesSpec)

/-- 'arrearslaw5.DiskExact', WHERE WHAT IT READS IS OF BULK AT MOST 1048576: true; the input reads as it did. -/
def diskExactUptoRow : OpenClaim := { program := "yticokogggepfoaa", sum := "5e0a226d94722c0713c03adb2227bffda4dccb3e51142ee7a7d2a6a5bb38193e", func := "arrears/arrearslaw5.DiskExact", spec := "diskExact", apart := false, narrowed := true }
def DiskExactUptoSaid : Prop := diskExactUptoRow.holds Try.pinned (OpenSpec.upto diskExactSpec)

/-- 'arrearslaw5.DiskForgets', WHERE WHAT IT READS IS OF BULK AT MOST 1048576: true; the input reads as it did. -/
def diskForgetsUptoRow : OpenClaim := { program := "yticokogggepfoaa", sum := "5e0a226d94722c0713c03adb2227bffda4dccb3e51142ee7a7d2a6a5bb38193e", func := "arrears/arrearslaw5.DiskForgets", spec := "diskForgets", apart := false, narrowed := true }
def DiskForgetsUptoSaid : Prop := diskForgetsUptoRow.holds Try.pinned (OpenSpec.upto diskForgetsSpec)

end Rows
end Go.Proofs.Yticokogggepfoaa
