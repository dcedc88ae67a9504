/-
  No cell of these rows narrows 'for every input' (looked for: loops, veiled, ifaces, maps, wideKeys, modest, calm, conditions, laid).
  DERIVED. THE GIVEN ROWS OF THIS SEAT. 8 by the template 'for every input the law returns true; each argument reads behind the call as it read before'; 0 by the template 'total and deterministic' (their statements: YthnpmmpcejfllaaTotals.lean).
  GIVEN WITH THE SEED: the statements are not yours to turn. If you find one false, say at which input.
  Laid BY PROGRAM, IN A SANDBOX (cutbox-rows.mjs): the forced cells as the released guide's own fill.sh prints them over the translation 144d54a89048b119… (all of the seat's roots in one cut). By AI agents, Wed Nov 11 2026. No macro, syntax, notation, axiom, sorry.
-/
import Derived.Test.YthnpmmpcejfllaaChecked
import GoSem.Claim
import GoSem.ClaimJoined
import GoSem.ClaimMapViews
import Derived.JoinedTies
import Derived.KernelRfl
namespace Go.Proofs.Ythnpmmpcejfllaa
/- THE CELL 'sum', in the pinned program and in every row, IS THE sha256 OF THE DUMP (.gsa) THAT YthnpmmpcejfllaaProg.lean LOADS. Nothing in Lean hashes anything: it is a label: what it is worth is what the hold of that sum in a sandbox is worth. -/
noncomputable def Try.pinned : Pinned := { name := "ythnpmmpcejfllaa", sum := "144d54a89048b1190442c30faff8a32f75119311def2edf9e9e39cd2566e5570", checked := Try.checked }
namespace Rows
def none {H : Type} : Left H := { results := [], args := [] }

/-- 'ninepinlaw07.OrientRank': WHATEVER THE INPUT: true; the input reads as it did. -/
def orientRankSpec : ChangeSpec := { name := "orientRank", fn := fun _ => fun
  | [d] => { results := [.lit (.bool true)], args := [d] }
  | _ => none }
def orientRankRow : OpenClaim := { program := "ythnpmmpcejfllaa", sum := "144d54a89048b1190442c30faff8a32f75119311def2edf9e9e39cd2566e5570", func := "ninepin/ninepinlaw07.OrientRank", spec := "orientRank", inPlace := ["math/bits.Add64"], unfollowed := true, recurses := true, apart := false }
def OrientRankSaid : Prop := orientRankRow.holds Try.pinned (OpenSpec.ofChange orientRankSpec)

/-- ITS FALSE NEIGHBOUR: 'it returns false'. Refute it at one input. -/
def orientRankWrong : ChangeSpec := { name := "orientRank", fn := fun _ => fun
  | [d] => { results := [.lit (.bool false)], args := [d] }
  | _ => none }
def OrientRankWrongFalsely : Prop := orientRankRow.holds Try.pinned (OpenSpec.ofChange orientRankWrong)

/-- 'ninepinlaw07.OrientInside': WHATEVER THE INPUT: true; the input reads as it did. -/
def orientInsideSpec : ChangeSpec := { name := "orientInside", fn := fun _ => fun
  | [d1, d2] => { results := [.lit (.bool true)], args := [d1, d2] }
  | _ => none }
def orientInsideRow : OpenClaim := { program := "ythnpmmpcejfllaa", sum := "144d54a89048b1190442c30faff8a32f75119311def2edf9e9e39cd2566e5570", func := "ninepin/ninepinlaw07.OrientInside", spec := "orientInside", inPlace := ["math/bits.Add64"], unfollowed := true, recurses := true, apart := false }
def OrientInsideSaid : Prop := orientInsideRow.holds Try.pinned (OpenSpec.ofChange orientInsideSpec)

/-- ITS FALSE NEIGHBOUR: 'it returns false'. Refute it at one input. -/
def orientInsideWrong : ChangeSpec := { name := "orientInside", fn := fun _ => fun
  | [d1, d2] => { results := [.lit (.bool false)], args := [d1, d2] }
  | _ => none }
def OrientInsideWrongFalsely : Prop := orientInsideRow.holds Try.pinned (OpenSpec.ofChange orientInsideWrong)

/-- 'ninepinlaw07.OrientTurns': WHATEVER THE INPUT: true; the input reads as it did. -/
def orientTurnsSpec : ChangeSpec := { name := "orientTurns", fn := fun _ => fun
  | [d1, d2, d3, d4] => { results := [.lit (.bool true)], args := [d1, d2, d3, d4] }
  | _ => none }
def orientTurnsRow : OpenClaim := { program := "ythnpmmpcejfllaa", sum := "144d54a89048b1190442c30faff8a32f75119311def2edf9e9e39cd2566e5570", func := "ninepin/ninepinlaw07.OrientTurns", spec := "orientTurns", inPlace := ["math/bits.Add64"], unfollowed := true, recurses := true, apart := false }
def OrientTurnsSaid : Prop := orientTurnsRow.holds Try.pinned (OpenSpec.ofChange orientTurnsSpec)

/-- ITS FALSE NEIGHBOUR: 'it returns false'. Refute it at one input. -/
def orientTurnsWrong : ChangeSpec := { name := "orientTurns", fn := fun _ => fun
  | [d1, d2, d3, d4] => { results := [.lit (.bool false)], args := [d1, d2, d3, d4] }
  | _ => none }
def OrientTurnsWrongFalsely : Prop := orientTurnsRow.holds Try.pinned (OpenSpec.ofChange orientTurnsWrong)

/-- 'ninepinlaw07.OrientSpread': WHATEVER THE INPUT: true; the input reads as it did. -/
def orientSpreadSpec : ChangeSpec := { name := "orientSpread", fn := fun _ => fun
  | [d] => { results := [.lit (.bool true)], args := [d] }
  | _ => none }
def orientSpreadRow : OpenClaim := { program := "ythnpmmpcejfllaa", sum := "144d54a89048b1190442c30faff8a32f75119311def2edf9e9e39cd2566e5570", func := "ninepin/ninepinlaw07.OrientSpread", spec := "orientSpread", inPlace := ["math/bits.Add64"], unfollowed := true, recurses := true, apart := false }
def OrientSpreadSaid : Prop := orientSpreadRow.holds Try.pinned (OpenSpec.ofChange orientSpreadSpec)

/-- ITS FALSE NEIGHBOUR: 'it returns false'. Refute it at one input. -/
def orientSpreadWrong : ChangeSpec := { name := "orientSpread", fn := fun _ => fun
  | [d] => { results := [.lit (.bool false)], args := [d] }
  | _ => none }
def OrientSpreadWrongFalsely : Prop := orientSpreadRow.holds Try.pinned (OpenSpec.ofChange orientSpreadWrong)

/-- 'ninepinlaw07.OrientFaces': WHATEVER THE INPUT: true; the input reads as it did. -/
def orientFacesSpec : ChangeSpec := { name := "orientFaces", fn := fun _ => fun
  | [d1, d2] => { results := [.lit (.bool true)], args := [d1, d2] }
  | _ => none }
def orientFacesRow : OpenClaim := { program := "ythnpmmpcejfllaa", sum := "144d54a89048b1190442c30faff8a32f75119311def2edf9e9e39cd2566e5570", func := "ninepin/ninepinlaw07.OrientFaces", spec := "orientFaces", inPlace := ["math/bits.Add64"], unfollowed := true, recurses := true, apart := false }
def OrientFacesSaid : Prop := orientFacesRow.holds Try.pinned (OpenSpec.ofChange orientFacesSpec)

/-- ITS FALSE NEIGHBOUR: 'it returns false'. Refute it at one input. -/
def orientFacesWrong : ChangeSpec := { name := "orientFaces", fn := fun _ => fun
  | [d1, d2] => { results := [.lit (.bool false)], args := [d1, d2] }
  | _ => none }
def OrientFacesWrongFalsely : Prop := orientFacesRow.holds Try.pinned (OpenSpec.ofChange orientFacesWrong)

/-- 'ninepinlaw07.OrientSide': WHATEVER THE INPUT: true; the input reads as it did. -/
def orientSideSpec : ChangeSpec := { name := "orientSide", fn := fun _ => fun
  | [d1, d2, d3, d4, d5] => { results := [.lit (.bool true)], args := [d1, d2, d3, d4, d5] }
  | _ => none }
def orientSideRow : OpenClaim := { program := "ythnpmmpcejfllaa", sum := "144d54a89048b1190442c30faff8a32f75119311def2edf9e9e39cd2566e5570", func := "ninepin/ninepinlaw07.OrientSide", spec := "orientSide", inPlace := ["math/bits.Add64"], unfollowed := true, recurses := true, apart := false }
def OrientSideSaid : Prop := orientSideRow.holds Try.pinned (OpenSpec.ofChange orientSideSpec)

/-- ITS FALSE NEIGHBOUR: 'it returns false'. Refute it at one input. -/
def orientSideWrong : ChangeSpec := { name := "orientSide", fn := fun _ => fun
  | [d1, d2, d3, d4, d5] => { results := [.lit (.bool false)], args := [d1, d2, d3, d4, d5] }
  | _ => none }
def OrientSideWrongFalsely : Prop := orientSideRow.holds Try.pinned (OpenSpec.ofChange orientSideWrong)

/-- 'ninepinlaw07.OrientMoved': WHATEVER THE INPUT: true; the input reads as it did. -/
def orientMovedSpec : ChangeSpec := { name := "orientMoved", fn := fun _ => fun
  | [d1, d2, d3] => { results := [.lit (.bool true)], args := [d1, d2, d3] }
  | _ => none }
def orientMovedRow : OpenClaim := { program := "ythnpmmpcejfllaa", sum := "144d54a89048b1190442c30faff8a32f75119311def2edf9e9e39cd2566e5570", func := "ninepin/ninepinlaw07.OrientMoved", spec := "orientMoved", inPlace := ["math/bits.Add64"], unfollowed := true, recurses := true, apart := false }
def OrientMovedSaid : Prop := orientMovedRow.holds Try.pinned (OpenSpec.ofChange orientMovedSpec)

/-- ITS FALSE NEIGHBOUR: 'it returns false'. Refute it at one input. -/
def orientMovedWrong : ChangeSpec := { name := "orientMoved", fn := fun _ => fun
  | [d1, d2, d3] => { results := [.lit (.bool false)], args := [d1, d2, d3] }
  | _ => none }
def OrientMovedWrongFalsely : Prop := orientMovedRow.holds Try.pinned (OpenSpec.ofChange orientMovedWrong)

/-- 'ninepinlaw07.OrientParts': WHATEVER THE INPUT: true; the input reads as it did. -/
def orientPartsSpec : ChangeSpec := { name := "orientParts", fn := fun _ => fun
  | [d1, d2, d3, d4, d5] => { results := [.lit (.bool true)], args := [d1, d2, d3, d4, d5] }
  | _ => none }
def orientPartsRow : OpenClaim := { program := "ythnpmmpcejfllaa", sum := "144d54a89048b1190442c30faff8a32f75119311def2edf9e9e39cd2566e5570", func := "ninepin/ninepinlaw07.OrientParts", spec := "orientParts", inPlace := ["math/bits.Add64"], unfollowed := true, recurses := true, apart := false }
def OrientPartsSaid : Prop := orientPartsRow.holds Try.pinned (OpenSpec.ofChange orientPartsSpec)

/-- ITS FALSE NEIGHBOUR: 'it returns false'. Refute it at one input. -/
def orientPartsWrong : ChangeSpec := { name := "orientParts", fn := fun _ => fun
  | [d1, d2, d3, d4, d5] => { results := [.lit (.bool false)], args := [d1, d2, d3, d4, d5] }
  | _ => none }
def OrientPartsWrongFalsely : Prop := orientPartsRow.holds Try.pinned (OpenSpec.ofChange orientPartsWrong)

/- THE SECOND FORM. 'bulk': how many values and letters a reading holds, each counted each time it is reached (what is shared counts as often as it is met; a slice's spare places count too). A statement '..UptoSaid' is the law's where the arguments, and the package variables that the reading takes, are together of bulk at most 1048576: NARROWER than '..Said'. Prove '..Said' where nothing that the law and all that it calls make is longer than what came in: it says more and counts as full. Else prove '..UptoSaid'. A law counts once. -/
mutual
def uptoBulk {H : Type} : DataW H → Nat
  | .lit (.string bytes) => bytes.length + 1
  | .lit _ => 1
  | .nil => 1
  | .ptr d => uptoBulk d + 1
  | .slice elems spare => uptoBulkAll elems + uptoBulkAll spare + 1
  | .agg parts => uptoBulkAll parts + 1
  | .iface _ d => uptoBulk d + 1
  | .map entries => uptoBulkEntries entries + 1
  | .held _ => 1
def uptoBulkAll {H : Type} : List (DataW H) → Nat
  | [] => 0
  | d :: r => uptoBulk d + uptoBulkAll r
def uptoBulkEntries {H : Type} : List (Lit × DataW H) → Nat
  | [] => 0
  | x :: r => uptoBulkEntry x + uptoBulkEntries r
def uptoBulkEntry {H : Type} : Lit × DataW H → Nat
  | (.string bytes, d) => bytes.length + uptoBulk d + 1
  | (_, d) => uptoBulk d + 1
 end
def uptoSmall : (H : Type) → List (DataW H) → Bool := fun _ ds => decide (uptoBulkAll ds ≤ 1048576)
def OpenSpec.upto (s : _root_.Go.ChangeSpec) : _root_.Go.OpenSpec := { _root_.Go.OpenSpec.ofChange s with cond := some uptoSmall }

/-- 'ninepinlaw07.OrientRank', WHERE WHAT IT READS IS OF BULK AT MOST 1048576: true; the input reads as it did. -/
def orientRankUptoRow : OpenClaim := { program := "ythnpmmpcejfllaa", sum := "144d54a89048b1190442c30faff8a32f75119311def2edf9e9e39cd2566e5570", func := "ninepin/ninepinlaw07.OrientRank", spec := "orientRank", inPlace := ["math/bits.Add64"], unfollowed := true, recurses := true, apart := false, narrowed := true }
def OrientRankUptoSaid : Prop := orientRankUptoRow.holds Try.pinned (OpenSpec.upto orientRankSpec)

/-- 'ninepinlaw07.OrientInside', WHERE WHAT IT READS IS OF BULK AT MOST 1048576: true; the input reads as it did. -/
def orientInsideUptoRow : OpenClaim := { program := "ythnpmmpcejfllaa", sum := "144d54a89048b1190442c30faff8a32f75119311def2edf9e9e39cd2566e5570", func := "ninepin/ninepinlaw07.OrientInside", spec := "orientInside", inPlace := ["math/bits.Add64"], unfollowed := true, recurses := true, apart := false, narrowed := true }
def OrientInsideUptoSaid : Prop := orientInsideUptoRow.holds Try.pinned (OpenSpec.upto orientInsideSpec)

/-- 'ninepinlaw07.OrientTurns', WHERE WHAT IT READS IS OF BULK AT MOST 1048576: true; the input reads as it did. -/
def orientTurnsUptoRow : OpenClaim := { program := "ythnpmmpcejfllaa", sum := "144d54a89048b1190442c30faff8a32f75119311def2edf9e9e39cd2566e5570", func := "ninepin/ninepinlaw07.OrientTurns", spec := "orientTurns", inPlace := ["math/bits.Add64"], unfollowed := true, recurses := true, apart := false, narrowed := true }
def OrientTurnsUptoSaid : Prop := orientTurnsUptoRow.holds Try.pinned (OpenSpec.upto orientTurnsSpec)

/-- 'ninepinlaw07.OrientSpread', WHERE WHAT IT READS IS OF BULK AT MOST 1048576: true; the input reads as it did. -/
def orientSpreadUptoRow : OpenClaim := { program := "ythnpmmpcejfllaa", sum := "144d54a89048b1190442c30faff8a32f75119311def2edf9e9e39cd2566e5570", func := "ninepin/ninepinlaw07.OrientSpread", spec := "orientSpread", inPlace := ["math/bits.Add64"], unfollowed := true, recurses := true, apart := false, narrowed := true }
def OrientSpreadUptoSaid : Prop := orientSpreadUptoRow.holds Try.pinned (OpenSpec.upto orientSpreadSpec)

/-- 'ninepinlaw07.OrientFaces', WHERE WHAT IT READS IS OF BULK AT MOST 1048576: true; the input reads as it did. -/
def orientFacesUptoRow : OpenClaim := { program := "ythnpmmpcejfllaa", sum := "144d54a89048b1190442c30faff8a32f75119311def2edf9e9e39cd2566e5570", func := "ninepin/ninepinlaw07.OrientFaces", spec := "orientFaces", inPlace := ["math/bits.Add64"], unfollowed := true, recurses := true, apart := false, narrowed := true }
def OrientFacesUptoSaid : Prop := orientFacesUptoRow.holds Try.pinned (OpenSpec.upto orientFacesSpec)

/-- 'ninepinlaw07.OrientSide', WHERE WHAT IT READS IS OF BULK AT MOST 1048576: true; the input reads as it did. -/
def orientSideUptoRow : OpenClaim := { program := "ythnpmmpcejfllaa", sum := "144d54a89048b1190442c30faff8a32f75119311def2edf9e9e39cd2566e5570", func := "ninepin/ninepinlaw07.OrientSide", spec := "orientSide", inPlace := ["math/bits.Add64"], unfollowed := true, recurses := true, apart := false, narrowed := true }
def OrientSideUptoSaid : Prop := orientSideUptoRow.holds Try.pinned (OpenSpec.upto orientSideSpec)

/-- 'ninepinlaw07.OrientMoved', WHERE WHAT IT READS IS OF BULK AT MOST 1048576: true; the input reads as it did. -/
def orientMovedUptoRow : OpenClaim := { program := "ythnpmmpcejfllaa", sum := "144d54a89048b1190442c30faff8a32f75119311def2edf9e9e39cd2566e5570", func := "ninepin/ninepinlaw07.OrientMoved", spec := "orientMoved", inPlace := ["math/bits.Add64"], unfollowed := true, recurses := true, apart := false, narrowed := true }
def OrientMovedUptoSaid : Prop := orientMovedUptoRow.holds Try.pinned (OpenSpec.upto orientMovedSpec)

/-- 'ninepinlaw07.OrientParts', WHERE WHAT IT READS IS OF BULK AT MOST 1048576: true; the input reads as it did. -/
def orientPartsUptoRow : OpenClaim := { program := "ythnpmmpcejfllaa", sum := "144d54a89048b1190442c30faff8a32f75119311def2edf9e9e39cd2566e5570", func := "ninepin/ninepinlaw07.OrientParts", spec := "orientParts", inPlace := ["math/bits.Add64"], unfollowed := true, recurses := true, apart := false, narrowed := true }
def OrientPartsUptoSaid : Prop := orientPartsUptoRow.holds Try.pinned (OpenSpec.upto orientPartsSpec)

end Rows
end Go.Proofs.Ythnpmmpcejfllaa
