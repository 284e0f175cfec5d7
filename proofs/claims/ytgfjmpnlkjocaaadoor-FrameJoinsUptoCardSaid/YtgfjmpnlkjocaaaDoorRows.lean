/-
  NARROWER THAN 'FOR EVERY INPUT', by the rows' own cells (each row's printed sentence says how): FrameSums: laid · FrameJoins: laid · FrameDecodes: laid · FrameScans: laid · FrameGoesAgain: laid · FrameCutAgain: laid · FrameSpoilt: laid · FrameTorn: laid · FrameGoesOn: laid · FrameFresh: laid.
  DERIVED. THE GIVEN ROWS OF THIS SEAT. 10 by the template 'for every input the law returns true; each argument reads behind the call as it read before'; 0 by the template 'total and deterministic' (their statements: YtgfjmpnlkjocaaaDoorTotals.lean).
  GIVEN WITH THE SEED: the statements are not yours to turn. If you find one false, say at which input.
  Laid BY PROGRAM, IN A SANDBOX (cutbox-rows.mjs): the forced cells as the released guide's own fill.sh prints them over the translation 8de6124d854f4b15… (all of the seat's roots in one cut). By AI agents, Wed Nov 11 2026. No macro, syntax, notation, axiom, sorry.
-/
import Derived.Test.YtgfjmpnlkjocaaaDoorChecked
import GoSem.Claim
import GoSem.ClaimJoined
import GoSem.ClaimMapViews
import Derived.JoinedTies
import Derived.KernelRfl
namespace Go.Proofs.YtgfjmpnlkjocaaaDoor
/- THE CELL 'sum', in the pinned program and in every row, IS THE sha256 OF THE DUMP (.gsa) THAT YtgfjmpnlkjocaaaDoorProg.lean LOADS. Nothing in Lean hashes anything: it is a label: what it is worth is what the hold of that sum in a sandbox is worth. -/
noncomputable def Tryd.pinned : Pinned := { name := "ytgfjmpnlkjocaaadoor", sum := "8de6124d854f4b15b1b3663843f88bc20aa26d8b40f13cab9b85ee0e51cd7e1c", checked := Tryd.checked }
namespace Rows
def none {H : Type} : Left H := { results := [], args := [] }

/- WHAT THE LISTED PACKAGE-LEVEL VARIABLES READ AS WHEN THE CALL BEGINS. Each datum BY PROGRAM (the guide's laid-datum.mjs) off the statement by which the dump's own 'gosem.cut.vars' lays the variable. In a bare row this is a premise. The card (YtgfjmpnlkjocaaaDoorCards.lean) ties it to the program's text. -/
def laid_arrears_frame_nibbles {H : Type} : DataW H := .agg [.lit (.int .u32 0), .lit (.int .u32 498536548), .lit (.int .u32 997073096), .lit (.int .u32 651767980), .lit (.int .u32 1994146192), .lit (.int .u32 1802195444), .lit (.int .u32 1303535960), .lit (.int .u32 1342533948), .lit (.int .u32 3988292384), .lit (.int .u32 4027552580), .lit (.int .u32 3604390888), .lit (.int .u32 3412177804), .lit (.int .u32 2607071920), .lit (.int .u32 2262029012), .lit (.int .u32 2685067896), .lit (.int .u32 3183342108)]

/-- 'arrearslaw6.FrameSums': WHATEVER THE INPUT: true; the input reads as it did. -/
def frameSumsSpec : ChangeSpec := { name := "frameSums", fn := fun _ => fun
  | [d1, d2] => { results := [.lit (.bool true)], args := [d1, d2] }
  | _ => none }
def frameSumsRow : OpenClaim := { program := "ytgfjmpnlkjocaaadoor", sum := "8de6124d854f4b15b1b3663843f88bc20aa26d8b40f13cab9b85ee0e51cd7e1c", func := "arrears/arrearslaw6.FrameSums", spec := "frameSums", named := ["arrears/frame.nibbles"], apart := false, laid := [("arrears/frame.nibbles", laid_arrears_frame_nibbles)] }
def FrameSumsSaid : Prop := frameSumsRow.holds Tryd.pinned (OpenSpec.ofChange frameSumsSpec)

/-- ITS FALSE NEIGHBOUR: 'it returns false'. Refute it at one input. -/
def frameSumsWrong : ChangeSpec := { name := "frameSums", fn := fun _ => fun
  | [d1, d2] => { results := [.lit (.bool false)], args := [d1, d2] }
  | _ => none }
def FrameSumsWrongFalsely : Prop := frameSumsRow.holds Tryd.pinned (OpenSpec.ofChange frameSumsWrong)

/-- 'arrearslaw6.FrameJoins': WHATEVER THE INPUT: true; the input reads as it did. -/
def frameJoinsSpec : ChangeSpec := { name := "frameJoins", fn := fun _ => fun
  | [d] => { results := [.lit (.bool true)], args := [d] }
  | _ => none }
def frameJoinsRow : OpenClaim := { program := "ytgfjmpnlkjocaaadoor", sum := "8de6124d854f4b15b1b3663843f88bc20aa26d8b40f13cab9b85ee0e51cd7e1c", func := "arrears/arrearslaw6.FrameJoins", spec := "frameJoins", named := ["arrears/frame.nibbles"], apart := false, laid := [("arrears/frame.nibbles", laid_arrears_frame_nibbles)] }
def FrameJoinsSaid : Prop := frameJoinsRow.holds Tryd.pinned (OpenSpec.ofChange frameJoinsSpec)

/-- ITS FALSE NEIGHBOUR: 'it returns false'. Refute it at one input. -/
def frameJoinsWrong : ChangeSpec := { name := "frameJoins", fn := fun _ => fun
  | [d] => { results := [.lit (.bool false)], args := [d] }
  | _ => none }
def FrameJoinsWrongFalsely : Prop := frameJoinsRow.holds Tryd.pinned (OpenSpec.ofChange frameJoinsWrong)

/-- 'arrearslaw6.FrameDecodes': WHATEVER THE INPUT: true; the input reads as it did. -/
def frameDecodesSpec : ChangeSpec := { name := "frameDecodes", fn := fun _ => fun
  | [d1, d2] => { results := [.lit (.bool true)], args := [d1, d2] }
  | _ => none }
def frameDecodesRow : OpenClaim := { program := "ytgfjmpnlkjocaaadoor", sum := "8de6124d854f4b15b1b3663843f88bc20aa26d8b40f13cab9b85ee0e51cd7e1c", func := "arrears/arrearslaw6.FrameDecodes", spec := "frameDecodes", named := ["arrears/frame.nibbles"], apart := false, laid := [("arrears/frame.nibbles", laid_arrears_frame_nibbles)] }
def FrameDecodesSaid : Prop := frameDecodesRow.holds Tryd.pinned (OpenSpec.ofChange frameDecodesSpec)

/-- ITS FALSE NEIGHBOUR: 'it returns false'. Refute it at one input. -/
def frameDecodesWrong : ChangeSpec := { name := "frameDecodes", fn := fun _ => fun
  | [d1, d2] => { results := [.lit (.bool false)], args := [d1, d2] }
  | _ => none }
def FrameDecodesWrongFalsely : Prop := frameDecodesRow.holds Tryd.pinned (OpenSpec.ofChange frameDecodesWrong)

/-- 'arrearslaw6.FrameScans': WHATEVER THE INPUT: true; the input reads as it did. -/
def frameScansSpec : ChangeSpec := { name := "frameScans", fn := fun _ => fun
  | [d] => { results := [.lit (.bool true)], args := [d] }
  | _ => none }
def frameScansRow : OpenClaim := { program := "ytgfjmpnlkjocaaadoor", sum := "8de6124d854f4b15b1b3663843f88bc20aa26d8b40f13cab9b85ee0e51cd7e1c", func := "arrears/arrearslaw6.FrameScans", spec := "frameScans", unfollowed := true, recurses := true, named := ["arrears/frame.nibbles"], apart := false, laid := [("arrears/frame.nibbles", laid_arrears_frame_nibbles)] }
def FrameScansSaid : Prop := frameScansRow.holds Tryd.pinned (OpenSpec.ofChange frameScansSpec)

/-- ITS FALSE NEIGHBOUR: 'it returns false'. Refute it at one input. -/
def frameScansWrong : ChangeSpec := { name := "frameScans", fn := fun _ => fun
  | [d] => { results := [.lit (.bool false)], args := [d] }
  | _ => none }
def FrameScansWrongFalsely : Prop := frameScansRow.holds Tryd.pinned (OpenSpec.ofChange frameScansWrong)

/-- 'arrearslaw6.FrameGoesAgain': WHATEVER THE INPUT: true; the input reads as it did. -/
def frameGoesAgainSpec : ChangeSpec := { name := "frameGoesAgain", fn := fun _ => fun
  | [d1, d2] => { results := [.lit (.bool true)], args := [d1, d2] }
  | _ => none }
def frameGoesAgainRow : OpenClaim := { program := "ytgfjmpnlkjocaaadoor", sum := "8de6124d854f4b15b1b3663843f88bc20aa26d8b40f13cab9b85ee0e51cd7e1c", func := "arrears/arrearslaw6.FrameGoesAgain", spec := "frameGoesAgain", unfollowed := true, recurses := true, named := ["arrears/frame.nibbles"], apart := false, laid := [("arrears/frame.nibbles", laid_arrears_frame_nibbles)] }
def FrameGoesAgainSaid : Prop := frameGoesAgainRow.holds Tryd.pinned (OpenSpec.ofChange frameGoesAgainSpec)

/-- ITS FALSE NEIGHBOUR: 'it returns false'. Refute it at one input. -/
def frameGoesAgainWrong : ChangeSpec := { name := "frameGoesAgain", fn := fun _ => fun
  | [d1, d2] => { results := [.lit (.bool false)], args := [d1, d2] }
  | _ => none }
def FrameGoesAgainWrongFalsely : Prop := frameGoesAgainRow.holds Tryd.pinned (OpenSpec.ofChange frameGoesAgainWrong)

/-- 'arrearslaw6.FrameCutAgain': WHATEVER THE INPUT: true; the input reads as it did. -/
def frameCutAgainSpec : ChangeSpec := { name := "frameCutAgain", fn := fun _ => fun
  | [d1, d2] => { results := [.lit (.bool true)], args := [d1, d2] }
  | _ => none }
def frameCutAgainRow : OpenClaim := { program := "ytgfjmpnlkjocaaadoor", sum := "8de6124d854f4b15b1b3663843f88bc20aa26d8b40f13cab9b85ee0e51cd7e1c", func := "arrears/arrearslaw6.FrameCutAgain", spec := "frameCutAgain", unfollowed := true, recurses := true, named := ["arrears/frame.nibbles"], apart := false, laid := [("arrears/frame.nibbles", laid_arrears_frame_nibbles)] }
def FrameCutAgainSaid : Prop := frameCutAgainRow.holds Tryd.pinned (OpenSpec.ofChange frameCutAgainSpec)

/-- ITS FALSE NEIGHBOUR: 'it returns false'. Refute it at one input. -/
def frameCutAgainWrong : ChangeSpec := { name := "frameCutAgain", fn := fun _ => fun
  | [d1, d2] => { results := [.lit (.bool false)], args := [d1, d2] }
  | _ => none }
def FrameCutAgainWrongFalsely : Prop := frameCutAgainRow.holds Tryd.pinned (OpenSpec.ofChange frameCutAgainWrong)

/-- 'arrearslaw6.FrameSpoilt': WHATEVER THE INPUT: true; the input reads as it did. -/
def frameSpoiltSpec : ChangeSpec := { name := "frameSpoilt", fn := fun _ => fun
  | [d1, d2, d3, d4] => { results := [.lit (.bool true)], args := [d1, d2, d3, d4] }
  | _ => none }
def frameSpoiltRow : OpenClaim := { program := "ytgfjmpnlkjocaaadoor", sum := "8de6124d854f4b15b1b3663843f88bc20aa26d8b40f13cab9b85ee0e51cd7e1c", func := "arrears/arrearslaw6.FrameSpoilt", spec := "frameSpoilt", unfollowed := true, recurses := true, named := ["arrears/frame.nibbles"], apart := false, laid := [("arrears/frame.nibbles", laid_arrears_frame_nibbles)] }
def FrameSpoiltSaid : Prop := frameSpoiltRow.holds Tryd.pinned (OpenSpec.ofChange frameSpoiltSpec)

/-- ITS FALSE NEIGHBOUR: 'it returns false'. Refute it at one input. -/
def frameSpoiltWrong : ChangeSpec := { name := "frameSpoilt", fn := fun _ => fun
  | [d1, d2, d3, d4] => { results := [.lit (.bool false)], args := [d1, d2, d3, d4] }
  | _ => none }
def FrameSpoiltWrongFalsely : Prop := frameSpoiltRow.holds Tryd.pinned (OpenSpec.ofChange frameSpoiltWrong)

/-- 'arrearslaw6.FrameTorn': WHATEVER THE INPUT: true; the input reads as it did. -/
def frameTornSpec : ChangeSpec := { name := "frameTorn", fn := fun _ => fun
  | [d1, d2] => { results := [.lit (.bool true)], args := [d1, d2] }
  | _ => none }
def frameTornRow : OpenClaim := { program := "ytgfjmpnlkjocaaadoor", sum := "8de6124d854f4b15b1b3663843f88bc20aa26d8b40f13cab9b85ee0e51cd7e1c", func := "arrears/arrearslaw6.FrameTorn", spec := "frameTorn", unfollowed := true, recurses := true, named := ["arrears/frame.nibbles"], apart := false, laid := [("arrears/frame.nibbles", laid_arrears_frame_nibbles)] }
def FrameTornSaid : Prop := frameTornRow.holds Tryd.pinned (OpenSpec.ofChange frameTornSpec)

/-- ITS FALSE NEIGHBOUR: 'it returns false'. Refute it at one input. -/
def frameTornWrong : ChangeSpec := { name := "frameTorn", fn := fun _ => fun
  | [d1, d2] => { results := [.lit (.bool false)], args := [d1, d2] }
  | _ => none }
def FrameTornWrongFalsely : Prop := frameTornRow.holds Tryd.pinned (OpenSpec.ofChange frameTornWrong)

/-- 'arrearslaw6.FrameGoesOn': WHATEVER THE INPUT: true; the input reads as it did. -/
def frameGoesOnSpec : ChangeSpec := { name := "frameGoesOn", fn := fun _ => fun
  | [d1, d2] => { results := [.lit (.bool true)], args := [d1, d2] }
  | _ => none }
def frameGoesOnRow : OpenClaim := { program := "ytgfjmpnlkjocaaadoor", sum := "8de6124d854f4b15b1b3663843f88bc20aa26d8b40f13cab9b85ee0e51cd7e1c", func := "arrears/arrearslaw6.FrameGoesOn", spec := "frameGoesOn", unfollowed := true, recurses := true, named := ["arrears/frame.nibbles"], apart := false, laid := [("arrears/frame.nibbles", laid_arrears_frame_nibbles)] }
def FrameGoesOnSaid : Prop := frameGoesOnRow.holds Tryd.pinned (OpenSpec.ofChange frameGoesOnSpec)

/-- ITS FALSE NEIGHBOUR: 'it returns false'. Refute it at one input. -/
def frameGoesOnWrong : ChangeSpec := { name := "frameGoesOn", fn := fun _ => fun
  | [d1, d2] => { results := [.lit (.bool false)], args := [d1, d2] }
  | _ => none }
def FrameGoesOnWrongFalsely : Prop := frameGoesOnRow.holds Tryd.pinned (OpenSpec.ofChange frameGoesOnWrong)

/-- 'arrearslaw6.FrameFresh': WHATEVER THE INPUT: true; the input reads as it did. -/
def frameFreshSpec : ChangeSpec := { name := "frameFresh", fn := fun _ => fun
  | [d] => { results := [.lit (.bool true)], args := [d] }
  | _ => none }
def frameFreshRow : OpenClaim := { program := "ytgfjmpnlkjocaaadoor", sum := "8de6124d854f4b15b1b3663843f88bc20aa26d8b40f13cab9b85ee0e51cd7e1c", func := "arrears/arrearslaw6.FrameFresh", spec := "frameFresh", unfollowed := true, recurses := true, named := ["arrears/frame.nibbles"], apart := false, laid := [("arrears/frame.nibbles", laid_arrears_frame_nibbles)] }
def FrameFreshSaid : Prop := frameFreshRow.holds Tryd.pinned (OpenSpec.ofChange frameFreshSpec)

/-- ITS FALSE NEIGHBOUR: 'it returns false'. Refute it at one input. -/
def frameFreshWrong : ChangeSpec := { name := "frameFresh", fn := fun _ => fun
  | [d] => { results := [.lit (.bool false)], args := [d] }
  | _ => none }
def FrameFreshWrongFalsely : Prop := frameFreshRow.holds Tryd.pinned (OpenSpec.ofChange frameFreshWrong)

/- THE SECOND FORM. 'bulk': how many values and letters a reading holds, each counted each time it is reached (what is shared counts as often as it is met; a slice's spare places count too). A statement '..UptoSaid' is the law's where the arguments, and the package variables that the reading takes, are together of bulk at most 1048576: NARROWER than '..Said'. Prove '..Said' where nothing that the law and all that it calls make is longer than what came in: it says more and counts as full. Else prove '..UptoSaid'. A law counts once. -/
mutual
def uptoBulk {H : Type} : DataW H → Nat
  | .lit (.string bytes) => bytes.length + 1
  | .lit _ => 1
  | .nil => 1
  | .ptr d => uptoBulk d + 1
  | .slice elems spare => uptoBulkAll elems + uptoBulkAll spare + 1
  | .agg parts => uptoBulkAll parts + 1
  | .iface _ d => uptoBulk d + 1
  | .map entries => uptoBulkEntries entries + 1
  | .held _ => 1
def uptoBulkAll {H : Type} : List (DataW H) → Nat
  | [] => 0
  | d :: r => uptoBulk d + uptoBulkAll r
def uptoBulkEntries {H : Type} : List (Lit × DataW H) → Nat
  | [] => 0
  | x :: r => uptoBulkEntry x + uptoBulkEntries r
def uptoBulkEntry {H : Type} : Lit × DataW H → Nat
  | (.string bytes, d) => bytes.length + uptoBulk d + 1
  | (_, d) => uptoBulk d + 1
 end
def uptoSmall : (H : Type) → List (DataW H) → Bool := fun _ ds => decide (uptoBulkAll ds ≤ 1048576)
def OpenSpec.upto (s : _root_.Go.ChangeSpec) : _root_.Go.OpenSpec := { _root_.Go.OpenSpec.ofChange s with cond := some uptoSmall }

/-- 'arrearslaw6.FrameSums', WHERE WHAT IT READS IS OF BULK AT MOST 1048576: true; the input reads as it did. -/
def frameSumsUptoRow : OpenClaim := { program := "ytgfjmpnlkjocaaadoor", sum := "8de6124d854f4b15b1b3663843f88bc20aa26d8b40f13cab9b85ee0e51cd7e1c", func := "arrears/arrearslaw6.FrameSums", spec := "frameSums", named := ["arrears/frame.nibbles"], apart := false, laid := [("arrears/frame.nibbles", laid_arrears_frame_nibbles)], narrowed := true }
def FrameSumsUptoSaid : Prop := frameSumsUptoRow.holds Tryd.pinned (OpenSpec.upto frameSumsSpec)

/-- 'arrearslaw6.FrameJoins', WHERE WHAT IT READS IS OF BULK AT MOST 1048576: true; the input reads as it did. -/
def frameJoinsUptoRow : OpenClaim := { program := "ytgfjmpnlkjocaaadoor", sum := "8de6124d854f4b15b1b3663843f88bc20aa26d8b40f13cab9b85ee0e51cd7e1c", func := "arrears/arrearslaw6.FrameJoins", spec := "frameJoins", named := ["arrears/frame.nibbles"], apart := false, laid := [("arrears/frame.nibbles", laid_arrears_frame_nibbles)], narrowed := true }
def FrameJoinsUptoSaid : Prop := frameJoinsUptoRow.holds Tryd.pinned (OpenSpec.upto frameJoinsSpec)

/-- 'arrearslaw6.FrameDecodes', WHERE WHAT IT READS IS OF BULK AT MOST 1048576: true; the input reads as it did. -/
def frameDecodesUptoRow : OpenClaim := { program := "ytgfjmpnlkjocaaadoor", sum := "8de6124d854f4b15b1b3663843f88bc20aa26d8b40f13cab9b85ee0e51cd7e1c", func := "arrears/arrearslaw6.FrameDecodes", spec := "frameDecodes", named := ["arrears/frame.nibbles"], apart := false, laid := [("arrears/frame.nibbles", laid_arrears_frame_nibbles)], narrowed := true }
def FrameDecodesUptoSaid : Prop := frameDecodesUptoRow.holds Tryd.pinned (OpenSpec.upto frameDecodesSpec)

/-- 'arrearslaw6.FrameScans', WHERE WHAT IT READS IS OF BULK AT MOST 1048576: true; the input reads as it did. -/
def frameScansUptoRow : OpenClaim := { program := "ytgfjmpnlkjocaaadoor", sum := "8de6124d854f4b15b1b3663843f88bc20aa26d8b40f13cab9b85ee0e51cd7e1c", func := "arrears/arrearslaw6.FrameScans", spec := "frameScans", unfollowed := true, recurses := true, named := ["arrears/frame.nibbles"], apart := false, laid := [("arrears/frame.nibbles", laid_arrears_frame_nibbles)], narrowed := true }
def FrameScansUptoSaid : Prop := frameScansUptoRow.holds Tryd.pinned (OpenSpec.upto frameScansSpec)

/-- 'arrearslaw6.FrameGoesAgain', WHERE WHAT IT READS IS OF BULK AT MOST 1048576: true; the input reads as it did. -/
def frameGoesAgainUptoRow : OpenClaim := { program := "ytgfjmpnlkjocaaadoor", sum := "8de6124d854f4b15b1b3663843f88bc20aa26d8b40f13cab9b85ee0e51cd7e1c", func := "arrears/arrearslaw6.FrameGoesAgain", spec := "frameGoesAgain", unfollowed := true, recurses := true, named := ["arrears/frame.nibbles"], apart := false, laid := [("arrears/frame.nibbles", laid_arrears_frame_nibbles)], narrowed := true }
def FrameGoesAgainUptoSaid : Prop := frameGoesAgainUptoRow.holds Tryd.pinned (OpenSpec.upto frameGoesAgainSpec)

/-- 'arrearslaw6.FrameCutAgain', WHERE WHAT IT READS IS OF BULK AT MOST 1048576: true; the input reads as it did. -/
def frameCutAgainUptoRow : OpenClaim := { program := "ytgfjmpnlkjocaaadoor", sum := "8de6124d854f4b15b1b3663843f88bc20aa26d8b40f13cab9b85ee0e51cd7e1c", func := "arrears/arrearslaw6.FrameCutAgain", spec := "frameCutAgain", unfollowed := true, recurses := true, named := ["arrears/frame.nibbles"], apart := false, laid := [("arrears/frame.nibbles", laid_arrears_frame_nibbles)], narrowed := true }
def FrameCutAgainUptoSaid : Prop := frameCutAgainUptoRow.holds Tryd.pinned (OpenSpec.upto frameCutAgainSpec)

/-- 'arrearslaw6.FrameSpoilt', WHERE WHAT IT READS IS OF BULK AT MOST 1048576: true; the input reads as it did. -/
def frameSpoiltUptoRow : OpenClaim := { program := "ytgfjmpnlkjocaaadoor", sum := "8de6124d854f4b15b1b3663843f88bc20aa26d8b40f13cab9b85ee0e51cd7e1c", func := "arrears/arrearslaw6.FrameSpoilt", spec := "frameSpoilt", unfollowed := true, recurses := true, named := ["arrears/frame.nibbles"], apart := false, laid := [("arrears/frame.nibbles", laid_arrears_frame_nibbles)], narrowed := true }
def FrameSpoiltUptoSaid : Prop := frameSpoiltUptoRow.holds Tryd.pinned (OpenSpec.upto frameSpoiltSpec)

/-- 'arrearslaw6.FrameTorn', WHERE WHAT IT READS IS OF BULK AT MOST 1048576: true; the input reads as it did. -/
def frameTornUptoRow : OpenClaim := { program := "ytgfjmpnlkjocaaadoor", sum := "8de6124d854f4b15b1b3663843f88bc20aa26d8b40f13cab9b85ee0e51cd7e1c", func := "arrears/arrearslaw6.FrameTorn", spec := "frameTorn", unfollowed := true, recurses := true, named := ["arrears/frame.nibbles"], apart := false, laid := [("arrears/frame.nibbles", laid_arrears_frame_nibbles)], narrowed := true }
def FrameTornUptoSaid : Prop := frameTornUptoRow.holds Tryd.pinned (OpenSpec.upto frameTornSpec)

/-- 'arrearslaw6.FrameGoesOn', WHERE WHAT IT READS IS OF BULK AT MOST 1048576: true; the input reads as it did. -/
def frameGoesOnUptoRow : OpenClaim := { program := "ytgfjmpnlkjocaaadoor", sum := "8de6124d854f4b15b1b3663843f88bc20aa26d8b40f13cab9b85ee0e51cd7e1c", func := "arrears/arrearslaw6.FrameGoesOn", spec := "frameGoesOn", unfollowed := true, recurses := true, named := ["arrears/frame.nibbles"], apart := false, laid := [("arrears/frame.nibbles", laid_arrears_frame_nibbles)], narrowed := true }
def FrameGoesOnUptoSaid : Prop := frameGoesOnUptoRow.holds Tryd.pinned (OpenSpec.upto frameGoesOnSpec)

/-- 'arrearslaw6.FrameFresh', WHERE WHAT IT READS IS OF BULK AT MOST 1048576: true; the input reads as it did. -/
def frameFreshUptoRow : OpenClaim := { program := "ytgfjmpnlkjocaaadoor", sum := "8de6124d854f4b15b1b3663843f88bc20aa26d8b40f13cab9b85ee0e51cd7e1c", func := "arrears/arrearslaw6.FrameFresh", spec := "frameFresh", unfollowed := true, recurses := true, named := ["arrears/frame.nibbles"], apart := false, laid := [("arrears/frame.nibbles", laid_arrears_frame_nibbles)], narrowed := true }
def FrameFreshUptoSaid : Prop := frameFreshUptoRow.holds Tryd.pinned (OpenSpec.upto frameFreshSpec)

end Rows
end Go.Proofs.YtgfjmpnlkjocaaaDoor
