/-
  No cell of these rows narrows 'for every input' (looked for: loops, veiled, ifaces, maps, wideKeys, modest, calm, conditions, laid).
  DERIVED. THE GIVEN ROWS OF THIS SEAT. 12 by the template 'for every input the law returns true; each argument reads behind the call as it read before'; 0 by the template 'total and deterministic' (their statements: YtnipjafcgicddaaTotals.lean).
  GIVEN WITH THE SEED: the statements are not yours to turn. If you find one false, say at which input.
  Laid BY PROGRAM, IN A SANDBOX (cutbox-rows.mjs): the forced cells as the released guide's own fill.sh prints them over the translation 41daae4135a063ae… (all of the seat's roots in one cut). By AI agents, Wed Nov 11 2026. No macro, syntax, notation, axiom, sorry.
-/
import Derived.Test.YtnipjafcgicddaaChecked
import GoSem.Claim
import GoSem.ClaimJoined
import GoSem.ClaimMapViews
import Derived.JoinedTies
import Derived.KernelRfl
namespace Go.Proofs.Ytnipjafcgicddaa
/- THE CELL 'sum', in the pinned program and in every row, IS THE sha256 OF THE DUMP (.gsa) THAT YtnipjafcgicddaaProg.lean LOADS. Nothing in Lean hashes anything: it is a label: what it is worth is what the hold of that sum in a sandbox is worth. -/
noncomputable def Try.pinned : Pinned := { name := "ytnipjafcgicddaa", sum := "41daae4135a063ae7f0dd00dcab0a67945e44a81436c26b954d659205030e9f1", checked := Try.checked }
namespace Rows
def none {H : Type} : Left H := { results := [], args := [] }

/-- 'ninepinlaw03.VecDot': WHATEVER THE INPUT: true; the input reads as it did. -/
def vecDotSpec : ChangeSpec := { name := "vecDot", fn := fun _ => fun
  | [d1, d2] => { results := [.lit (.bool true)], args := [d1, d2] }
  | _ => none }
def vecDotRow : OpenClaim := { program := "ytnipjafcgicddaa", sum := "41daae4135a063ae7f0dd00dcab0a67945e44a81436c26b954d659205030e9f1", func := "ninepin/ninepinlaw03.VecDot", spec := "vecDot", inPlace := ["math/bits.Add64"], unfollowed := true, recurses := true, apart := false }
def VecDotSaid : Prop := vecDotRow.holds Try.pinned (OpenSpec.ofChange vecDotSpec)

/-- ITS FALSE NEIGHBOUR: 'it returns false'. Refute it at one input. -/
def vecDotWrong : ChangeSpec := { name := "vecDot", fn := fun _ => fun
  | [d1, d2] => { results := [.lit (.bool false)], args := [d1, d2] }
  | _ => none }
def VecDotWrongFalsely : Prop := vecDotRow.holds Try.pinned (OpenSpec.ofChange vecDotWrong)

/-- 'ninepinlaw03.VecCross': WHATEVER THE INPUT: true; the input reads as it did. -/
def vecCrossSpec : ChangeSpec := { name := "vecCross", fn := fun _ => fun
  | [d1, d2] => { results := [.lit (.bool true)], args := [d1, d2] }
  | _ => none }
def vecCrossRow : OpenClaim := { program := "ytnipjafcgicddaa", sum := "41daae4135a063ae7f0dd00dcab0a67945e44a81436c26b954d659205030e9f1", func := "ninepin/ninepinlaw03.VecCross", spec := "vecCross", inPlace := ["math/bits.Add64"], unfollowed := true, recurses := true, apart := false }
def VecCrossSaid : Prop := vecCrossRow.holds Try.pinned (OpenSpec.ofChange vecCrossSpec)

/-- ITS FALSE NEIGHBOUR: 'it returns false'. Refute it at one input. -/
def vecCrossWrong : ChangeSpec := { name := "vecCross", fn := fun _ => fun
  | [d1, d2] => { results := [.lit (.bool false)], args := [d1, d2] }
  | _ => none }
def VecCrossWrongFalsely : Prop := vecCrossRow.holds Try.pinned (OpenSpec.ofChange vecCrossWrong)

/-- 'ninepinlaw03.VecUnit': WHATEVER THE INPUT: true; the input reads as it did. -/
def vecUnitSpec : ChangeSpec := { name := "vecUnit", fn := fun _ => fun
  | [d] => { results := [.lit (.bool true)], args := [d] }
  | _ => none }
def vecUnitRow : OpenClaim := { program := "ytnipjafcgicddaa", sum := "41daae4135a063ae7f0dd00dcab0a67945e44a81436c26b954d659205030e9f1", func := "ninepin/ninepinlaw03.VecUnit", spec := "vecUnit", inPlace := ["math/bits.Add64"], unfollowed := true, recurses := true, apart := false }
def VecUnitSaid : Prop := vecUnitRow.holds Try.pinned (OpenSpec.ofChange vecUnitSpec)

/-- ITS FALSE NEIGHBOUR: 'it returns false'. Refute it at one input. -/
def vecUnitWrong : ChangeSpec := { name := "vecUnit", fn := fun _ => fun
  | [d] => { results := [.lit (.bool false)], args := [d] }
  | _ => none }
def VecUnitWrongFalsely : Prop := vecUnitRow.holds Try.pinned (OpenSpec.ofChange vecUnitWrong)

/-- 'ninepinlaw03.VecTurned': WHATEVER THE INPUT: true; the input reads as it did. -/
def vecTurnedSpec : ChangeSpec := { name := "vecTurned", fn := fun _ => fun
  | [d1, d2] => { results := [.lit (.bool true)], args := [d1, d2] }
  | _ => none }
def vecTurnedRow : OpenClaim := { program := "ytnipjafcgicddaa", sum := "41daae4135a063ae7f0dd00dcab0a67945e44a81436c26b954d659205030e9f1", func := "ninepin/ninepinlaw03.VecTurned", spec := "vecTurned", inPlace := ["math/bits.Add64"], unfollowed := true, recurses := true, apart := false }
def VecTurnedSaid : Prop := vecTurnedRow.holds Try.pinned (OpenSpec.ofChange vecTurnedSpec)

/-- ITS FALSE NEIGHBOUR: 'it returns false'. Refute it at one input. -/
def vecTurnedWrong : ChangeSpec := { name := "vecTurned", fn := fun _ => fun
  | [d1, d2] => { results := [.lit (.bool false)], args := [d1, d2] }
  | _ => none }
def VecTurnedWrongFalsely : Prop := vecTurnedRow.holds Try.pinned (OpenSpec.ofChange vecTurnedWrong)

/-- 'ninepinlaw03.VecUnitary': WHATEVER THE INPUT: true; the input reads as it did. -/
def vecUnitarySpec : ChangeSpec := { name := "vecUnitary", fn := fun _ => fun
  | [d] => { results := [.lit (.bool true)], args := [d] }
  | _ => none }
def vecUnitaryRow : OpenClaim := { program := "ytnipjafcgicddaa", sum := "41daae4135a063ae7f0dd00dcab0a67945e44a81436c26b954d659205030e9f1", func := "ninepin/ninepinlaw03.VecUnitary", spec := "vecUnitary", inPlace := ["math/bits.Add64"], unfollowed := true, recurses := true, apart := false }
def VecUnitarySaid : Prop := vecUnitaryRow.holds Try.pinned (OpenSpec.ofChange vecUnitarySpec)

/-- ITS FALSE NEIGHBOUR: 'it returns false'. Refute it at one input. -/
def vecUnitaryWrong : ChangeSpec := { name := "vecUnitary", fn := fun _ => fun
  | [d] => { results := [.lit (.bool false)], args := [d] }
  | _ => none }
def VecUnitaryWrongFalsely : Prop := vecUnitaryRow.holds Try.pinned (OpenSpec.ofChange vecUnitaryWrong)

/-- 'ninepinlaw03.VecLen': WHATEVER THE INPUT: true; the input reads as it did. -/
def vecLenSpec : ChangeSpec := { name := "vecLen", fn := fun _ => fun
  | [d] => { results := [.lit (.bool true)], args := [d] }
  | _ => none }
def vecLenRow : OpenClaim := { program := "ytnipjafcgicddaa", sum := "41daae4135a063ae7f0dd00dcab0a67945e44a81436c26b954d659205030e9f1", func := "ninepin/ninepinlaw03.VecLen", spec := "vecLen", inPlace := ["math/bits.Add64"], unfollowed := true, recurses := true, apart := false }
def VecLenSaid : Prop := vecLenRow.holds Try.pinned (OpenSpec.ofChange vecLenSpec)

/-- ITS FALSE NEIGHBOUR: 'it returns false'. Refute it at one input. -/
def vecLenWrong : ChangeSpec := { name := "vecLen", fn := fun _ => fun
  | [d] => { results := [.lit (.bool false)], args := [d] }
  | _ => none }
def VecLenWrongFalsely : Prop := vecLenRow.holds Try.pinned (OpenSpec.ofChange vecLenWrong)

/-- 'ninepinlaw03.VecLength': WHATEVER THE INPUT: true; the input reads as it did. -/
def vecLengthSpec : ChangeSpec := { name := "vecLength", fn := fun _ => fun
  | [d] => { results := [.lit (.bool true)], args := [d] }
  | _ => none }
def vecLengthRow : OpenClaim := { program := "ytnipjafcgicddaa", sum := "41daae4135a063ae7f0dd00dcab0a67945e44a81436c26b954d659205030e9f1", func := "ninepin/ninepinlaw03.VecLength", spec := "vecLength", inPlace := ["math/bits.Add64"], unfollowed := true, recurses := true, apart := false }
def VecLengthSaid : Prop := vecLengthRow.holds Try.pinned (OpenSpec.ofChange vecLengthSpec)

/-- ITS FALSE NEIGHBOUR: 'it returns false'. Refute it at one input. -/
def vecLengthWrong : ChangeSpec := { name := "vecLength", fn := fun _ => fun
  | [d] => { results := [.lit (.bool false)], args := [d] }
  | _ => none }
def VecLengthWrongFalsely : Prop := vecLengthRow.holds Try.pinned (OpenSpec.ofChange vecLengthWrong)

/-- 'ninepinlaw03.VecNear': WHATEVER THE INPUT: true; the input reads as it did. -/
def vecNearSpec : ChangeSpec := { name := "vecNear", fn := fun _ => fun
  | [d1, d2, d3] => { results := [.lit (.bool true)], args := [d1, d2, d3] }
  | _ => none }
def vecNearRow : OpenClaim := { program := "ytnipjafcgicddaa", sum := "41daae4135a063ae7f0dd00dcab0a67945e44a81436c26b954d659205030e9f1", func := "ninepin/ninepinlaw03.VecNear", spec := "vecNear", inPlace := ["math/bits.Add64"], unfollowed := true, recurses := true, apart := false }
def VecNearSaid : Prop := vecNearRow.holds Try.pinned (OpenSpec.ofChange vecNearSpec)

/-- ITS FALSE NEIGHBOUR: 'it returns false'. Refute it at one input. -/
def vecNearWrong : ChangeSpec := { name := "vecNear", fn := fun _ => fun
  | [d1, d2, d3] => { results := [.lit (.bool false)], args := [d1, d2, d3] }
  | _ => none }
def VecNearWrongFalsely : Prop := vecNearRow.holds Try.pinned (OpenSpec.ofChange vecNearWrong)

/-- 'ninepinlaw03.VecTriangle': WHATEVER THE INPUT: true; the input reads as it did. -/
def vecTriangleSpec : ChangeSpec := { name := "vecTriangle", fn := fun _ => fun
  | [d1, d2] => { results := [.lit (.bool true)], args := [d1, d2] }
  | _ => none }
def vecTriangleRow : OpenClaim := { program := "ytnipjafcgicddaa", sum := "41daae4135a063ae7f0dd00dcab0a67945e44a81436c26b954d659205030e9f1", func := "ninepin/ninepinlaw03.VecTriangle", spec := "vecTriangle", inPlace := ["math/bits.Add64"], unfollowed := true, recurses := true, apart := false }
def VecTriangleSaid : Prop := vecTriangleRow.holds Try.pinned (OpenSpec.ofChange vecTriangleSpec)

/-- ITS FALSE NEIGHBOUR: 'it returns false'. Refute it at one input. -/
def vecTriangleWrong : ChangeSpec := { name := "vecTriangle", fn := fun _ => fun
  | [d1, d2] => { results := [.lit (.bool false)], args := [d1, d2] }
  | _ => none }
def VecTriangleWrongFalsely : Prop := vecTriangleRow.holds Try.pinned (OpenSpec.ofChange vecTriangleWrong)

/-- 'ninepinlaw03.VecBack': WHATEVER THE INPUT: true; the input reads as it did. -/
def vecBackSpec : ChangeSpec := { name := "vecBack", fn := fun _ => fun
  | [d1, d2, d3] => { results := [.lit (.bool true)], args := [d1, d2, d3] }
  | _ => none }
def vecBackRow : OpenClaim := { program := "ytnipjafcgicddaa", sum := "41daae4135a063ae7f0dd00dcab0a67945e44a81436c26b954d659205030e9f1", func := "ninepin/ninepinlaw03.VecBack", spec := "vecBack", inPlace := ["math/bits.Add64"], unfollowed := true, recurses := true, apart := false }
def VecBackSaid : Prop := vecBackRow.holds Try.pinned (OpenSpec.ofChange vecBackSpec)

/-- ITS FALSE NEIGHBOUR: 'it returns false'. Refute it at one input. -/
def vecBackWrong : ChangeSpec := { name := "vecBack", fn := fun _ => fun
  | [d1, d2, d3] => { results := [.lit (.bool false)], args := [d1, d2, d3] }
  | _ => none }
def VecBackWrongFalsely : Prop := vecBackRow.holds Try.pinned (OpenSpec.ofChange vecBackWrong)

/-- 'ninepinlaw03.VecSums': WHATEVER THE INPUT: true; the input reads as it did. -/
def vecSumsSpec : ChangeSpec := { name := "vecSums", fn := fun _ => fun
  | [d1, d2, d3] => { results := [.lit (.bool true)], args := [d1, d2, d3] }
  | _ => none }
def vecSumsRow : OpenClaim := { program := "ytnipjafcgicddaa", sum := "41daae4135a063ae7f0dd00dcab0a67945e44a81436c26b954d659205030e9f1", func := "ninepin/ninepinlaw03.VecSums", spec := "vecSums", inPlace := ["math/bits.Add64"], unfollowed := true, recurses := true, apart := false }
def VecSumsSaid : Prop := vecSumsRow.holds Try.pinned (OpenSpec.ofChange vecSumsSpec)

/-- ITS FALSE NEIGHBOUR: 'it returns false'. Refute it at one input. -/
def vecSumsWrong : ChangeSpec := { name := "vecSums", fn := fun _ => fun
  | [d1, d2, d3] => { results := [.lit (.bool false)], args := [d1, d2, d3] }
  | _ => none }
def VecSumsWrongFalsely : Prop := vecSumsRow.holds Try.pinned (OpenSpec.ofChange vecSumsWrong)

/-- 'ninepinlaw03.VecSame': WHATEVER THE INPUT: true; the input reads as it did. -/
def vecSameSpec : ChangeSpec := { name := "vecSame", fn := fun _ => fun
  | [d1, d2, d3] => { results := [.lit (.bool true)], args := [d1, d2, d3] }
  | _ => none }
def vecSameRow : OpenClaim := { program := "ytnipjafcgicddaa", sum := "41daae4135a063ae7f0dd00dcab0a67945e44a81436c26b954d659205030e9f1", func := "ninepin/ninepinlaw03.VecSame", spec := "vecSame", inPlace := ["math/bits.Add64"], unfollowed := true, recurses := true, apart := false }
def VecSameSaid : Prop := vecSameRow.holds Try.pinned (OpenSpec.ofChange vecSameSpec)

/-- ITS FALSE NEIGHBOUR: 'it returns false'. Refute it at one input. -/
def vecSameWrong : ChangeSpec := { name := "vecSame", fn := fun _ => fun
  | [d1, d2, d3] => { results := [.lit (.bool false)], args := [d1, d2, d3] }
  | _ => none }
def VecSameWrongFalsely : Prop := vecSameRow.holds Try.pinned (OpenSpec.ofChange vecSameWrong)

/- THE SECOND FORM. 'bulk': how many values and letters a reading holds, each counted each time it is reached (what is shared counts as often as it is met; a slice's spare places count too). A statement '..UptoSaid' is the law's where the arguments, and the package variables that the reading takes, are together of bulk at most 1048576: NARROWER than '..Said'. Prove '..Said' where nothing that the law and all that it calls make is longer than what came in: it says more and counts as full. Else prove '..UptoSaid'. A law counts once. -/
mutual
def uptoBulk {H : Type} : DataW H → Nat
  | .lit (.string bytes) => bytes.length + 1
  | .lit _ => 1
  | .nil => 1
  | .ptr d => uptoBulk d + 1
  | .slice elems spare => uptoBulkAll elems + uptoBulkAll spare + 1
  | .agg parts => uptoBulkAll parts + 1
  | .iface _ d => uptoBulk d + 1
  | .map entries => uptoBulkEntries entries + 1
  | .held _ => 1
def uptoBulkAll {H : Type} : List (DataW H) → Nat
  | [] => 0
  | d :: r => uptoBulk d + uptoBulkAll r
def uptoBulkEntries {H : Type} : List (Lit × DataW H) → Nat
  | [] => 0
  | x :: r => uptoBulkEntry x + uptoBulkEntries r
def uptoBulkEntry {H : Type} : Lit × DataW H → Nat
  | (.string bytes, d) => bytes.length + uptoBulk d + 1
  | (_, d) => uptoBulk d + 1
 end
def uptoSmall : (H : Type) → List (DataW H) → Bool := fun _ ds => decide (uptoBulkAll ds ≤ 1048576)
def OpenSpec.upto (s : _root_.Go.ChangeSpec) : _root_.Go.OpenSpec := { _root_.Go.OpenSpec.ofChange s with cond := some uptoSmall }

/-- 'ninepinlaw03.VecDot', WHERE WHAT IT READS IS OF BULK AT MOST 1048576: true; the input reads as it did. -/
def vecDotUptoRow : OpenClaim := { program := "ytnipjafcgicddaa", sum := "41daae4135a063ae7f0dd00dcab0a67945e44a81436c26b954d659205030e9f1", func := "ninepin/ninepinlaw03.VecDot", spec := "vecDot", inPlace := ["math/bits.Add64"], unfollowed := true, recurses := true, apart := false, narrowed := true }
def VecDotUptoSaid : Prop := vecDotUptoRow.holds Try.pinned (OpenSpec.upto vecDotSpec)

/-- 'ninepinlaw03.VecCross', WHERE WHAT IT READS IS OF BULK AT MOST 1048576: true; the input reads as it did. -/
def vecCrossUptoRow : OpenClaim := { program := "ytnipjafcgicddaa", sum := "41daae4135a063ae7f0dd00dcab0a67945e44a81436c26b954d659205030e9f1", func := "ninepin/ninepinlaw03.VecCross", spec := "vecCross", inPlace := ["math/bits.Add64"], unfollowed := true, recurses := true, apart := false, narrowed := true }
def VecCrossUptoSaid : Prop := vecCrossUptoRow.holds Try.pinned (OpenSpec.upto vecCrossSpec)

/-- 'ninepinlaw03.VecUnit', WHERE WHAT IT READS IS OF BULK AT MOST 1048576: true; the input reads as it did. -/
def vecUnitUptoRow : OpenClaim := { program := "ytnipjafcgicddaa", sum := "41daae4135a063ae7f0dd00dcab0a67945e44a81436c26b954d659205030e9f1", func := "ninepin/ninepinlaw03.VecUnit", spec := "vecUnit", inPlace := ["math/bits.Add64"], unfollowed := true, recurses := true, apart := false, narrowed := true }
def VecUnitUptoSaid : Prop := vecUnitUptoRow.holds Try.pinned (OpenSpec.upto vecUnitSpec)

/-- 'ninepinlaw03.VecTurned', WHERE WHAT IT READS IS OF BULK AT MOST 1048576: true; the input reads as it did. -/
def vecTurnedUptoRow : OpenClaim := { program := "ytnipjafcgicddaa", sum := "41daae4135a063ae7f0dd00dcab0a67945e44a81436c26b954d659205030e9f1", func := "ninepin/ninepinlaw03.VecTurned", spec := "vecTurned", inPlace := ["math/bits.Add64"], unfollowed := true, recurses := true, apart := false, narrowed := true }
def VecTurnedUptoSaid : Prop := vecTurnedUptoRow.holds Try.pinned (OpenSpec.upto vecTurnedSpec)

/-- 'ninepinlaw03.VecUnitary', WHERE WHAT IT READS IS OF BULK AT MOST 1048576: true; the input reads as it did. -/
def vecUnitaryUptoRow : OpenClaim := { program := "ytnipjafcgicddaa", sum := "41daae4135a063ae7f0dd00dcab0a67945e44a81436c26b954d659205030e9f1", func := "ninepin/ninepinlaw03.VecUnitary", spec := "vecUnitary", inPlace := ["math/bits.Add64"], unfollowed := true, recurses := true, apart := false, narrowed := true }
def VecUnitaryUptoSaid : Prop := vecUnitaryUptoRow.holds Try.pinned (OpenSpec.upto vecUnitarySpec)

/-- 'ninepinlaw03.VecLen', WHERE WHAT IT READS IS OF BULK AT MOST 1048576: true; the input reads as it did. -/
def vecLenUptoRow : OpenClaim := { program := "ytnipjafcgicddaa", sum := "41daae4135a063ae7f0dd00dcab0a67945e44a81436c26b954d659205030e9f1", func := "ninepin/ninepinlaw03.VecLen", spec := "vecLen", inPlace := ["math/bits.Add64"], unfollowed := true, recurses := true, apart := false, narrowed := true }
def VecLenUptoSaid : Prop := vecLenUptoRow.holds Try.pinned (OpenSpec.upto vecLenSpec)

/-- 'ninepinlaw03.VecLength', WHERE WHAT IT READS IS OF BULK AT MOST 1048576: true; the input reads as it did. -/
def vecLengthUptoRow : OpenClaim := { program := "ytnipjafcgicddaa", sum := "41daae4135a063ae7f0dd00dcab0a67945e44a81436c26b954d659205030e9f1", func := "ninepin/ninepinlaw03.VecLength", spec := "vecLength", inPlace := ["math/bits.Add64"], unfollowed := true, recurses := true, apart := false, narrowed := true }
def VecLengthUptoSaid : Prop := vecLengthUptoRow.holds Try.pinned (OpenSpec.upto vecLengthSpec)

/-- 'ninepinlaw03.VecNear', WHERE WHAT IT READS IS OF BULK AT MOST 1048576: true; the input reads as it did. -/
def vecNearUptoRow : OpenClaim := { program := "ytnipjafcgicddaa", sum := "41daae4135a063ae7f0dd00dcab0a67945e44a81436c26b954d659205030e9f1", func := "ninepin/ninepinlaw03.VecNear", spec := "vecNear", inPlace := ["math/bits.Add64"], unfollowed := true, recurses := true, apart := false, narrowed := true }
def VecNearUptoSaid : Prop := vecNearUptoRow.holds Try.pinned (OpenSpec.upto vecNearSpec)

/-- 'ninepinlaw03.VecTriangle', WHERE WHAT IT READS IS OF BULK AT MOST 1048576: true; the input reads as it did. -/
def vecTriangleUptoRow : OpenClaim := { program := "ytnipjafcgicddaa", sum := "41daae4135a063ae7f0dd00dcab0a67945e44a81436c26b954d659205030e9f1", func := "ninepin/ninepinlaw03.VecTriangle", spec := "vecTriangle", inPlace := ["math/bits.Add64"], unfollowed := true, recurses := true, apart := false, narrowed := true }
def VecTriangleUptoSaid : Prop := vecTriangleUptoRow.holds Try.pinned (OpenSpec.upto vecTriangleSpec)

/-- 'ninepinlaw03.VecBack', WHERE WHAT IT READS IS OF BULK AT MOST 1048576: true; the input reads as it did. -/
def vecBackUptoRow : OpenClaim := { program := "ytnipjafcgicddaa", sum := "41daae4135a063ae7f0dd00dcab0a67945e44a81436c26b954d659205030e9f1", func := "ninepin/ninepinlaw03.VecBack", spec := "vecBack", inPlace := ["math/bits.Add64"], unfollowed := true, recurses := true, apart := false, narrowed := true }
def VecBackUptoSaid : Prop := vecBackUptoRow.holds Try.pinned (OpenSpec.upto vecBackSpec)

/-- 'ninepinlaw03.VecSums', WHERE WHAT IT READS IS OF BULK AT MOST 1048576: true; the input reads as it did. -/
def vecSumsUptoRow : OpenClaim := { program := "ytnipjafcgicddaa", sum := "41daae4135a063ae7f0dd00dcab0a67945e44a81436c26b954d659205030e9f1", func := "ninepin/ninepinlaw03.VecSums", spec := "vecSums", inPlace := ["math/bits.Add64"], unfollowed := true, recurses := true, apart := false, narrowed := true }
def VecSumsUptoSaid : Prop := vecSumsUptoRow.holds Try.pinned (OpenSpec.upto vecSumsSpec)

/-- 'ninepinlaw03.VecSame', WHERE WHAT IT READS IS OF BULK AT MOST 1048576: true; the input reads as it did. -/
def vecSameUptoRow : OpenClaim := { program := "ytnipjafcgicddaa", sum := "41daae4135a063ae7f0dd00dcab0a67945e44a81436c26b954d659205030e9f1", func := "ninepin/ninepinlaw03.VecSame", spec := "vecSame", inPlace := ["math/bits.Add64"], unfollowed := true, recurses := true, apart := false, narrowed := true }
def VecSameUptoSaid : Prop := vecSameUptoRow.holds Try.pinned (OpenSpec.upto vecSameSpec)

end Rows
end Go.Proofs.Ytnipjafcgicddaa
