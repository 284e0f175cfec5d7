/-
  No cell of these rows narrows 'for every input' (looked for: loops, veiled, ifaces, maps, wideKeys, modest, calm, conditions, laid).
  DERIVED. THE GIVEN ROWS OF THIS SEAT. 9 by the template 'for every input the law returns true; each argument reads behind the call as it read before'; 0 by the template 'total and deterministic' (their statements: YtncfoaglmggdhaaTotals.lean).
  GIVEN WITH THE SEED: the statements are not yours to turn. If you find one false, say at which input.
  Laid BY PROGRAM, IN A SANDBOX (cutbox-rows.mjs): the forced cells as the released guide's own fill.sh prints them over the translation c74ba95d917f2f63… (all of the seat's roots in one cut). By AI agents, Wed Nov 11 2026. No macro, syntax, notation, axiom, sorry.
-/
import Derived.Test.YtncfoaglmggdhaaChecked
import GoSem.Claim
import GoSem.ClaimJoined
import GoSem.ClaimMapViews
import Derived.JoinedTies
import Derived.KernelRfl
namespace Go.Proofs.Ytncfoaglmggdhaa
/- THE CELL 'sum', in the pinned program and in every row, IS THE sha256 OF THE DUMP (.gsa) THAT YtncfoaglmggdhaaProg.lean LOADS. Nothing in Lean hashes anything: it is a label: what it is worth is what the hold of that sum in a sandbox is worth. -/
noncomputable def Try.pinned : Pinned := { name := "ytncfoaglmggdhaa", sum := "c74ba95d917f2f63360aec07c32ecfd29d24bfccfcf78fc22e12cb8f9e4435cf", checked := Try.checked }
namespace Rows
def none {H : Type} : Left H := { results := [], args := [] }

/-- 'arrearslaw10.AgingFront': WHATEVER THE INPUT: true; the input reads as it did. -/
def agingFrontSpec : ChangeSpec := { name := "agingFront", fn := fun _ => fun
  | [d1, d2] => { results := [.lit (.bool true)], args := [d1, d2] }
  | _ => none }
def agingFrontRow : OpenClaim := { program := "ytncfoaglmggdhaa", sum := "c74ba95d917f2f63360aec07c32ecfd29d24bfccfcf78fc22e12cb8f9e4435cf", func := "arrears/arrearslaw10.AgingFront", spec := "agingFront", inPlace := ["math/bits.Add64"], apart := false }
def AgingFrontSaid : Prop := agingFrontRow.holds Try.pinned (OpenSpec.ofChange agingFrontSpec)

/-- ITS FALSE NEIGHBOUR: 'it returns false'. Refute it at one input. -/
def agingFrontWrong : ChangeSpec := { name := "agingFront", fn := fun _ => fun
  | [d1, d2] => { results := [.lit (.bool false)], args := [d1, d2] }
  | _ => none }
def AgingFrontWrongFalsely : Prop := agingFrontRow.holds Try.pinned (OpenSpec.ofChange agingFrontWrong)

/-- 'arrearslaw10.AgingReach': WHATEVER THE INPUT: true; the input reads as it did. -/
def agingReachSpec : ChangeSpec := { name := "agingReach", fn := fun _ => fun
  | [d1, d2, d3, d4] => { results := [.lit (.bool true)], args := [d1, d2, d3, d4] }
  | _ => none }
def agingReachRow : OpenClaim := { program := "ytncfoaglmggdhaa", sum := "c74ba95d917f2f63360aec07c32ecfd29d24bfccfcf78fc22e12cb8f9e4435cf", func := "arrears/arrearslaw10.AgingReach", spec := "agingReach", inPlace := ["math/bits.Add64"], apart := false }
def AgingReachSaid : Prop := agingReachRow.holds Try.pinned (OpenSpec.ofChange agingReachSpec)

/-- ITS FALSE NEIGHBOUR: 'it returns false'. Refute it at one input. -/
def agingReachWrong : ChangeSpec := { name := "agingReach", fn := fun _ => fun
  | [d1, d2, d3, d4] => { results := [.lit (.bool false)], args := [d1, d2, d3, d4] }
  | _ => none }
def AgingReachWrongFalsely : Prop := agingReachRow.holds Try.pinned (OpenSpec.ofChange agingReachWrong)

/-- 'arrearslaw10.AgingReached': WHATEVER THE INPUT: true; the input reads as it did. -/
def agingReachedSpec : ChangeSpec := { name := "agingReached", fn := fun _ => fun
  | [d1, d2, d3, d4, d5] => { results := [.lit (.bool true)], args := [d1, d2, d3, d4, d5] }
  | _ => none }
def agingReachedRow : OpenClaim := { program := "ytncfoaglmggdhaa", sum := "c74ba95d917f2f63360aec07c32ecfd29d24bfccfcf78fc22e12cb8f9e4435cf", func := "arrears/arrearslaw10.AgingReached", spec := "agingReached", inPlace := ["math/bits.Add64"], apart := false }
def AgingReachedSaid : Prop := agingReachedRow.holds Try.pinned (OpenSpec.ofChange agingReachedSpec)

/-- ITS FALSE NEIGHBOUR: 'it returns false'. Refute it at one input. -/
def agingReachedWrong : ChangeSpec := { name := "agingReached", fn := fun _ => fun
  | [d1, d2, d3, d4, d5] => { results := [.lit (.bool false)], args := [d1, d2, d3, d4, d5] }
  | _ => none }
def AgingReachedWrongFalsely : Prop := agingReachedRow.holds Try.pinned (OpenSpec.ofChange agingReachedWrong)

/-- 'arrearslaw10.AgingAgree': WHATEVER THE INPUT: true; the input reads as it did. -/
def agingAgreeSpec : ChangeSpec := { name := "agingAgree", fn := fun _ => fun
  | [d1, d2, d3] => { results := [.lit (.bool true)], args := [d1, d2, d3] }
  | _ => none }
def agingAgreeRow : OpenClaim := { program := "ytncfoaglmggdhaa", sum := "c74ba95d917f2f63360aec07c32ecfd29d24bfccfcf78fc22e12cb8f9e4435cf", func := "arrears/arrearslaw10.AgingAgree", spec := "agingAgree", inPlace := ["math/bits.Add64"], apart := false }
def AgingAgreeSaid : Prop := agingAgreeRow.holds Try.pinned (OpenSpec.ofChange agingAgreeSpec)

/-- ITS FALSE NEIGHBOUR: 'it returns false'. Refute it at one input. -/
def agingAgreeWrong : ChangeSpec := { name := "agingAgree", fn := fun _ => fun
  | [d1, d2, d3] => { results := [.lit (.bool false)], args := [d1, d2, d3] }
  | _ => none }
def AgingAgreeWrongFalsely : Prop := agingAgreeRow.holds Try.pinned (OpenSpec.ofChange agingAgreeWrong)

/-- 'arrearslaw10.AgingDayByDay': WHATEVER THE INPUT: true; the input reads as it did. -/
def agingDayByDaySpec : ChangeSpec := { name := "agingDayByDay", fn := fun _ => fun
  | [d1, d2, d3] => { results := [.lit (.bool true)], args := [d1, d2, d3] }
  | _ => none }
def agingDayByDayRow : OpenClaim := { program := "ytncfoaglmggdhaa", sum := "c74ba95d917f2f63360aec07c32ecfd29d24bfccfcf78fc22e12cb8f9e4435cf", func := "arrears/arrearslaw10.AgingDayByDay", spec := "agingDayByDay", inPlace := ["math/bits.Add64"], apart := false }
def AgingDayByDaySaid : Prop := agingDayByDayRow.holds Try.pinned (OpenSpec.ofChange agingDayByDaySpec)

/-- ITS FALSE NEIGHBOUR: 'it returns false'. Refute it at one input. -/
def agingDayByDayWrong : ChangeSpec := { name := "agingDayByDay", fn := fun _ => fun
  | [d1, d2, d3] => { results := [.lit (.bool false)], args := [d1, d2, d3] }
  | _ => none }
def AgingDayByDayWrongFalsely : Prop := agingDayByDayRow.holds Try.pinned (OpenSpec.ofChange agingDayByDayWrong)

/-- 'arrearslaw10.AgingPayment': WHATEVER THE INPUT: true; the input reads as it did. -/
def agingPaymentSpec : ChangeSpec := { name := "agingPayment", fn := fun _ => fun
  | [d1, d2, d3, d4] => { results := [.lit (.bool true)], args := [d1, d2, d3, d4] }
  | _ => none }
def agingPaymentRow : OpenClaim := { program := "ytncfoaglmggdhaa", sum := "c74ba95d917f2f63360aec07c32ecfd29d24bfccfcf78fc22e12cb8f9e4435cf", func := "arrears/arrearslaw10.AgingPayment", spec := "agingPayment", inPlace := ["math/bits.Add64"], apart := false }
def AgingPaymentSaid : Prop := agingPaymentRow.holds Try.pinned (OpenSpec.ofChange agingPaymentSpec)

/-- ITS FALSE NEIGHBOUR: 'it returns false'. Refute it at one input. -/
def agingPaymentWrong : ChangeSpec := { name := "agingPayment", fn := fun _ => fun
  | [d1, d2, d3, d4] => { results := [.lit (.bool false)], args := [d1, d2, d3, d4] }
  | _ => none }
def AgingPaymentWrongFalsely : Prop := agingPaymentRow.holds Try.pinned (OpenSpec.ofChange agingPaymentWrong)

/-- 'arrearslaw10.AgingMarksOnce': WHATEVER THE INPUT: true; the input reads as it did. -/
def agingMarksOnceSpec : ChangeSpec := { name := "agingMarksOnce", fn := fun _ => fun
  | [d1, d2, d3, d4, d5] => { results := [.lit (.bool true)], args := [d1, d2, d3, d4, d5] }
  | _ => none }
def agingMarksOnceRow : OpenClaim := { program := "ytncfoaglmggdhaa", sum := "c74ba95d917f2f63360aec07c32ecfd29d24bfccfcf78fc22e12cb8f9e4435cf", func := "arrears/arrearslaw10.AgingMarksOnce", spec := "agingMarksOnce", inPlace := ["math/bits.Add64"], apart := false }
def AgingMarksOnceSaid : Prop := agingMarksOnceRow.holds Try.pinned (OpenSpec.ofChange agingMarksOnceSpec)

/-- ITS FALSE NEIGHBOUR: 'it returns false'. Refute it at one input. -/
def agingMarksOnceWrong : ChangeSpec := { name := "agingMarksOnce", fn := fun _ => fun
  | [d1, d2, d3, d4, d5] => { results := [.lit (.bool false)], args := [d1, d2, d3, d4, d5] }
  | _ => none }
def AgingMarksOnceWrongFalsely : Prop := agingMarksOnceRow.holds Try.pinned (OpenSpec.ofChange agingMarksOnceWrong)

/-- 'arrearslaw10.AgingMisses': WHATEVER THE INPUT: true; the input reads as it did. -/
def agingMissesSpec : ChangeSpec := { name := "agingMisses", fn := fun _ => fun
  | [d1, d2, d3, d4, d5] => { results := [.lit (.bool true)], args := [d1, d2, d3, d4, d5] }
  | _ => none }
def agingMissesRow : OpenClaim := { program := "ytncfoaglmggdhaa", sum := "c74ba95d917f2f63360aec07c32ecfd29d24bfccfcf78fc22e12cb8f9e4435cf", func := "arrears/arrearslaw10.AgingMisses", spec := "agingMisses", inPlace := ["math/bits.Add64"], apart := false }
def AgingMissesSaid : Prop := agingMissesRow.holds Try.pinned (OpenSpec.ofChange agingMissesSpec)

/-- ITS FALSE NEIGHBOUR: 'it returns false'. Refute it at one input. -/
def agingMissesWrong : ChangeSpec := { name := "agingMisses", fn := fun _ => fun
  | [d1, d2, d3, d4, d5] => { results := [.lit (.bool false)], args := [d1, d2, d3, d4, d5] }
  | _ => none }
def AgingMissesWrongFalsely : Prop := agingMissesRow.holds Try.pinned (OpenSpec.ofChange agingMissesWrong)

/-- 'arrearslaw10.AgingExact': WHATEVER THE INPUT: true; the input reads as it did. -/
def agingExactSpec : ChangeSpec := { name := "agingExact", fn := fun _ => fun
  | [d1, d2, d3] => { results := [.lit (.bool true)], args := [d1, d2, d3] }
  | _ => none }
def agingExactRow : OpenClaim := { program := "ytncfoaglmggdhaa", sum := "c74ba95d917f2f63360aec07c32ecfd29d24bfccfcf78fc22e12cb8f9e4435cf", func := "arrears/arrearslaw10.AgingExact", spec := "agingExact", inPlace := ["math/bits.Add64"], apart := false }
def AgingExactSaid : Prop := agingExactRow.holds Try.pinned (OpenSpec.ofChange agingExactSpec)

/-- ITS FALSE NEIGHBOUR: 'it returns false'. Refute it at one input. -/
def agingExactWrong : ChangeSpec := { name := "agingExact", fn := fun _ => fun
  | [d1, d2, d3] => { results := [.lit (.bool false)], args := [d1, d2, d3] }
  | _ => none }
def AgingExactWrongFalsely : Prop := agingExactRow.holds Try.pinned (OpenSpec.ofChange agingExactWrong)

/- THE SECOND FORM. 'bulk': how many values and letters a reading holds, each counted each time it is reached (what is shared counts as often as it is met; a slice's spare places count too). A statement '..UptoSaid' is the law's where the arguments, and the package variables that the reading takes, are together of bulk at most 1048576: NARROWER than '..Said'. Prove '..Said' where nothing that the law and all that it calls make is longer than what came in: it says more and counts as full. Else prove '..UptoSaid'. A law counts once. -/
mutual
def uptoBulk {H : Type} : DataW H → Nat
  | .lit (.string bytes) => bytes.length + 1
  | .lit _ => 1
  | .nil => 1
  | .ptr d => uptoBulk d + 1
  | .slice elems spare => uptoBulkAll elems + uptoBulkAll spare + 1
  | .agg parts => uptoBulkAll parts + 1
  | .iface _ d => uptoBulk d + 1
  | .map entries => uptoBulkEntries entries + 1
  | .held _ => 1
def uptoBulkAll {H : Type} : List (DataW H) → Nat
  | [] => 0
  | d :: r => uptoBulk d + uptoBulkAll r
def uptoBulkEntries {H : Type} : List (Lit × DataW H) → Nat
  | [] => 0
  | x :: r => uptoBulkEntry x + uptoBulkEntries r
def uptoBulkEntry {H : Type} : Lit × DataW H → Nat
  | (.string bytes, d) => bytes.length + uptoBulk d + 1
  | (_, d) => uptoBulk d + 1
 end
def uptoSmall : (H : Type) → List (DataW H) → Bool := fun _ ds => decide (uptoBulkAll ds ≤ 1048576)
def OpenSpec.upto (s : _root_.Go.ChangeSpec) : _root_.Go.OpenSpec := { _root_.Go.OpenSpec.ofChange s with cond := some uptoSmall }

/-- 'arrearslaw10.AgingFront', WHERE WHAT IT READS IS OF BULK AT MOST 1048576: true; the input reads as it did. -/
def agingFrontUptoRow : OpenClaim := { program := "ytncfoaglmggdhaa", sum := "c74ba95d917f2f63360aec07c32ecfd29d24bfccfcf78fc22e12cb8f9e4435cf", func := "arrears/arrearslaw10.AgingFront", spec := "agingFront", inPlace := ["math/bits.Add64"], apart := false, narrowed := true }
def AgingFrontUptoSaid : Prop := agingFrontUptoRow.holds Try.pinned (OpenSpec.upto agingFrontSpec)

/-- 'arrearslaw10.AgingReach', WHERE WHAT IT READS IS OF BULK AT MOST 1048576: true; the input reads as it did. -/
def agingReachUptoRow : OpenClaim := { program := "ytncfoaglmggdhaa", sum := "c74ba95d917f2f63360aec07c32ecfd29d24bfccfcf78fc22e12cb8f9e4435cf", func := "arrears/arrearslaw10.AgingReach", spec := "agingReach", inPlace := ["math/bits.Add64"], apart := false, narrowed := true }
def AgingReachUptoSaid : Prop := agingReachUptoRow.holds Try.pinned (OpenSpec.upto agingReachSpec)

/-- 'arrearslaw10.AgingReached', WHERE WHAT IT READS IS OF BULK AT MOST 1048576: true; the input reads as it did. -/
def agingReachedUptoRow : OpenClaim := { program := "ytncfoaglmggdhaa", sum := "c74ba95d917f2f63360aec07c32ecfd29d24bfccfcf78fc22e12cb8f9e4435cf", func := "arrears/arrearslaw10.AgingReached", spec := "agingReached", inPlace := ["math/bits.Add64"], apart := false, narrowed := true }
def AgingReachedUptoSaid : Prop := agingReachedUptoRow.holds Try.pinned (OpenSpec.upto agingReachedSpec)

/-- 'arrearslaw10.AgingAgree', WHERE WHAT IT READS IS OF BULK AT MOST 1048576: true; the input reads as it did. -/
def agingAgreeUptoRow : OpenClaim := { program := "ytncfoaglmggdhaa", sum := "c74ba95d917f2f63360aec07c32ecfd29d24bfccfcf78fc22e12cb8f9e4435cf", func := "arrears/arrearslaw10.AgingAgree", spec := "agingAgree", inPlace := ["math/bits.Add64"], apart := false, narrowed := true }
def AgingAgreeUptoSaid : Prop := agingAgreeUptoRow.holds Try.pinned (OpenSpec.upto agingAgreeSpec)

/-- 'arrearslaw10.AgingDayByDay', WHERE WHAT IT READS IS OF BULK AT MOST 1048576: true; the input reads as it did. -/
def agingDayByDayUptoRow : OpenClaim := { program := "ytncfoaglmggdhaa", sum := "c74ba95d917f2f63360aec07c32ecfd29d24bfccfcf78fc22e12cb8f9e4435cf", func := "arrears/arrearslaw10.AgingDayByDay", spec := "agingDayByDay", inPlace := ["math/bits.Add64"], apart := false, narrowed := true }
def AgingDayByDayUptoSaid : Prop := agingDayByDayUptoRow.holds Try.pinned (OpenSpec.upto agingDayByDaySpec)

/-- 'arrearslaw10.AgingPayment', WHERE WHAT IT READS IS OF BULK AT MOST 1048576: true; the input reads as it did. -/
def agingPaymentUptoRow : OpenClaim := { program := "ytncfoaglmggdhaa", sum := "c74ba95d917f2f63360aec07c32ecfd29d24bfccfcf78fc22e12cb8f9e4435cf", func := "arrears/arrearslaw10.AgingPayment", spec := "agingPayment", inPlace := ["math/bits.Add64"], apart := false, narrowed := true }
def AgingPaymentUptoSaid : Prop := agingPaymentUptoRow.holds Try.pinned (OpenSpec.upto agingPaymentSpec)

/-- 'arrearslaw10.AgingMarksOnce', WHERE WHAT IT READS IS OF BULK AT MOST 1048576: true; the input reads as it did. -/
def agingMarksOnceUptoRow : OpenClaim := { program := "ytncfoaglmggdhaa", sum := "c74ba95d917f2f63360aec07c32ecfd29d24bfccfcf78fc22e12cb8f9e4435cf", func := "arrears/arrearslaw10.AgingMarksOnce", spec := "agingMarksOnce", inPlace := ["math/bits.Add64"], apart := false, narrowed := true }
def AgingMarksOnceUptoSaid : Prop := agingMarksOnceUptoRow.holds Try.pinned (OpenSpec.upto agingMarksOnceSpec)

/-- 'arrearslaw10.AgingMisses', WHERE WHAT IT READS IS OF BULK AT MOST 1048576: true; the input reads as it did. -/
def agingMissesUptoRow : OpenClaim := { program := "ytncfoaglmggdhaa", sum := "c74ba95d917f2f63360aec07c32ecfd29d24bfccfcf78fc22e12cb8f9e4435cf", func := "arrears/arrearslaw10.AgingMisses", spec := "agingMisses", inPlace := ["math/bits.Add64"], apart := false, narrowed := true }
def AgingMissesUptoSaid : Prop := agingMissesUptoRow.holds Try.pinned (OpenSpec.upto agingMissesSpec)

/-- 'arrearslaw10.AgingExact', WHERE WHAT IT READS IS OF BULK AT MOST 1048576: true; the input reads as it did. -/
def agingExactUptoRow : OpenClaim := { program := "ytncfoaglmggdhaa", sum := "c74ba95d917f2f63360aec07c32ecfd29d24bfccfcf78fc22e12cb8f9e4435cf", func := "arrears/arrearslaw10.AgingExact", spec := "agingExact", inPlace := ["math/bits.Add64"], apart := false, narrowed := true }
def AgingExactUptoSaid : Prop := agingExactUptoRow.holds Try.pinned (OpenSpec.upto agingExactSpec)

end Rows
end Go.Proofs.Ytncfoaglmggdhaa
