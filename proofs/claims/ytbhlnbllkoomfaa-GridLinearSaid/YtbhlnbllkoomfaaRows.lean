/-
  No cell of these rows narrows 'for every input' (looked for: loops, veiled, ifaces, maps, wideKeys, modest, calm, conditions, laid).
  DERIVED. THE GIVEN ROWS OF THIS SEAT. 11 by the template 'for every input the law returns true; each argument reads behind the call as it read before'; 0 by the template 'total and deterministic' (their statements: YtbhlnbllkoomfaaTotals.lean).
  GIVEN WITH THE SEED: the statements are not yours to turn. If you find one false, say at which input.
  Laid BY PROGRAM, IN A SANDBOX (cutbox-rows.mjs): the forced cells as the released guide's own fill.sh prints them over the translation 45afd87b80785506… (all of the seat's roots in one cut). By AI agents, Wed Nov 11 2026. No macro, syntax, notation, axiom, sorry.
-/
import Derived.Test.YtbhlnbllkoomfaaChecked
import GoSem.Claim
import GoSem.ClaimJoined
import GoSem.ClaimMapViews
import Derived.JoinedTies
import Derived.KernelRfl
namespace Go.Proofs.Ytbhlnbllkoomfaa
/- THE CELL 'sum', in the pinned program and in every row, IS THE sha256 OF THE DUMP (.gsa) THAT YtbhlnbllkoomfaaProg.lean LOADS. Nothing in Lean hashes anything: it is a label: what it is worth is what the hold of that sum in a sandbox is worth. -/
noncomputable def Try.pinned : Pinned := { name := "ytbhlnbllkoomfaa", sum := "45afd87b80785506d7be21c4aef5aecf3014829ab454564adef67ffdd42ebef7", checked := Try.checked }
namespace Rows
def none {H : Type} : Left H := { results := [], args := [] }

/-- 'ninepinlaw06.GridAlong': WHATEVER THE INPUT: true; the input reads as it did. -/
def gridAlongSpec : ChangeSpec := { name := "gridAlong", fn := fun _ => fun
  | [d1, d2] => { results := [.lit (.bool true)], args := [d1, d2] }
  | _ => none }
def gridAlongRow : OpenClaim := { program := "ytbhlnbllkoomfaa", sum := "45afd87b80785506d7be21c4aef5aecf3014829ab454564adef67ffdd42ebef7", func := "ninepin/ninepinlaw06.GridAlong", spec := "gridAlong", inPlace := ["math/bits.Add64"], unfollowed := true, recurses := true, apart := false }
def GridAlongSaid : Prop := gridAlongRow.holds Try.pinned (OpenSpec.ofChange gridAlongSpec)

/-- ITS FALSE NEIGHBOUR: 'it returns false'. Refute it at one input. -/
def gridAlongWrong : ChangeSpec := { name := "gridAlong", fn := fun _ => fun
  | [d1, d2] => { results := [.lit (.bool false)], args := [d1, d2] }
  | _ => none }
def GridAlongWrongFalsely : Prop := gridAlongRow.holds Try.pinned (OpenSpec.ofChange gridAlongWrong)

/-- 'ninepinlaw06.GridPrime': WHATEVER THE INPUT: true; the input reads as it did. -/
def gridPrimeSpec : ChangeSpec := { name := "gridPrime", fn := fun _ => fun
  | [d] => { results := [.lit (.bool true)], args := [d] }
  | _ => none }
def gridPrimeRow : OpenClaim := { program := "ytbhlnbllkoomfaa", sum := "45afd87b80785506d7be21c4aef5aecf3014829ab454564adef67ffdd42ebef7", func := "ninepin/ninepinlaw06.GridPrime", spec := "gridPrime", inPlace := ["math/bits.Add64"], unfollowed := true, recurses := true, apart := false }
def GridPrimeSaid : Prop := gridPrimeRow.holds Try.pinned (OpenSpec.ofChange gridPrimeSpec)

/-- ITS FALSE NEIGHBOUR: 'it returns false'. Refute it at one input. -/
def gridPrimeWrong : ChangeSpec := { name := "gridPrime", fn := fun _ => fun
  | [d] => { results := [.lit (.bool false)], args := [d] }
  | _ => none }
def GridPrimeWrongFalsely : Prop := gridPrimeRow.holds Try.pinned (OpenSpec.ofChange gridPrimeWrong)

/-- 'ninepinlaw06.GridDet': WHATEVER THE INPUT: true; the input reads as it did. -/
def gridDetSpec : ChangeSpec := { name := "gridDet", fn := fun _ => fun
  | [d1, d2, d3] => { results := [.lit (.bool true)], args := [d1, d2, d3] }
  | _ => none }
def gridDetRow : OpenClaim := { program := "ytbhlnbllkoomfaa", sum := "45afd87b80785506d7be21c4aef5aecf3014829ab454564adef67ffdd42ebef7", func := "ninepin/ninepinlaw06.GridDet", spec := "gridDet", inPlace := ["math/bits.Add64"], unfollowed := true, recurses := true, apart := false }
def GridDetSaid : Prop := gridDetRow.holds Try.pinned (OpenSpec.ofChange gridDetSpec)

/-- ITS FALSE NEIGHBOUR: 'it returns false'. Refute it at one input. -/
def gridDetWrong : ChangeSpec := { name := "gridDet", fn := fun _ => fun
  | [d1, d2, d3] => { results := [.lit (.bool false)], args := [d1, d2, d3] }
  | _ => none }
def GridDetWrongFalsely : Prop := gridDetRow.holds Try.pinned (OpenSpec.ofChange gridDetWrong)

/-- 'ninepinlaw06.GridSame': WHATEVER THE INPUT: true; the input reads as it did. -/
def gridSameSpec : ChangeSpec := { name := "gridSame", fn := fun _ => fun
  | [d] => { results := [.lit (.bool true)], args := [d] }
  | _ => none }
def gridSameRow : OpenClaim := { program := "ytbhlnbllkoomfaa", sum := "45afd87b80785506d7be21c4aef5aecf3014829ab454564adef67ffdd42ebef7", func := "ninepin/ninepinlaw06.GridSame", spec := "gridSame", inPlace := ["math/bits.Add64"], unfollowed := true, recurses := true, apart := false }
def GridSameSaid : Prop := gridSameRow.holds Try.pinned (OpenSpec.ofChange gridSameSpec)

/-- ITS FALSE NEIGHBOUR: 'it returns false'. Refute it at one input. -/
def gridSameWrong : ChangeSpec := { name := "gridSame", fn := fun _ => fun
  | [d] => { results := [.lit (.bool false)], args := [d] }
  | _ => none }
def GridSameWrongFalsely : Prop := gridSameRow.holds Try.pinned (OpenSpec.ofChange gridSameWrong)

/-- 'ninepinlaw06.GridProducts': WHATEVER THE INPUT: true; the input reads as it did. -/
def gridProductsSpec : ChangeSpec := { name := "gridProducts", fn := fun _ => fun
  | [d1, d2, d3] => { results := [.lit (.bool true)], args := [d1, d2, d3] }
  | _ => none }
def gridProductsRow : OpenClaim := { program := "ytbhlnbllkoomfaa", sum := "45afd87b80785506d7be21c4aef5aecf3014829ab454564adef67ffdd42ebef7", func := "ninepin/ninepinlaw06.GridProducts", spec := "gridProducts", inPlace := ["math/bits.Add64"], unfollowed := true, recurses := true, apart := false }
def GridProductsSaid : Prop := gridProductsRow.holds Try.pinned (OpenSpec.ofChange gridProductsSpec)

/-- ITS FALSE NEIGHBOUR: 'it returns false'. Refute it at one input. -/
def gridProductsWrong : ChangeSpec := { name := "gridProducts", fn := fun _ => fun
  | [d1, d2, d3] => { results := [.lit (.bool false)], args := [d1, d2, d3] }
  | _ => none }
def GridProductsWrongFalsely : Prop := gridProductsRow.holds Try.pinned (OpenSpec.ofChange gridProductsWrong)

/-- 'ninepinlaw06.GridLagrange': WHATEVER THE INPUT: true; the input reads as it did. -/
def gridLagrangeSpec : ChangeSpec := { name := "gridLagrange", fn := fun _ => fun
  | [d1, d2] => { results := [.lit (.bool true)], args := [d1, d2] }
  | _ => none }
def gridLagrangeRow : OpenClaim := { program := "ytbhlnbllkoomfaa", sum := "45afd87b80785506d7be21c4aef5aecf3014829ab454564adef67ffdd42ebef7", func := "ninepin/ninepinlaw06.GridLagrange", spec := "gridLagrange", inPlace := ["math/bits.Add64"], unfollowed := true, recurses := true, apart := false }
def GridLagrangeSaid : Prop := gridLagrangeRow.holds Try.pinned (OpenSpec.ofChange gridLagrangeSpec)

/-- ITS FALSE NEIGHBOUR: 'it returns false'. Refute it at one input. -/
def gridLagrangeWrong : ChangeSpec := { name := "gridLagrange", fn := fun _ => fun
  | [d1, d2] => { results := [.lit (.bool false)], args := [d1, d2] }
  | _ => none }
def GridLagrangeWrongFalsely : Prop := gridLagrangeRow.holds Try.pinned (OpenSpec.ofChange gridLagrangeWrong)

/-- 'ninepinlaw06.GridLinear': WHATEVER THE INPUT: true; the input reads as it did. -/
def gridLinearSpec : ChangeSpec := { name := "gridLinear", fn := fun _ => fun
  | [d1, d2, d3, d4] => { results := [.lit (.bool true)], args := [d1, d2, d3, d4] }
  | _ => none }
def gridLinearRow : OpenClaim := { program := "ytbhlnbllkoomfaa", sum := "45afd87b80785506d7be21c4aef5aecf3014829ab454564adef67ffdd42ebef7", func := "ninepin/ninepinlaw06.GridLinear", spec := "gridLinear", inPlace := ["math/bits.Add64"], unfollowed := true, recurses := true, apart := false }
def GridLinearSaid : Prop := gridLinearRow.holds Try.pinned (OpenSpec.ofChange gridLinearSpec)

/-- ITS FALSE NEIGHBOUR: 'it returns false'. Refute it at one input. -/
def gridLinearWrong : ChangeSpec := { name := "gridLinear", fn := fun _ => fun
  | [d1, d2, d3, d4] => { results := [.lit (.bool false)], args := [d1, d2, d3, d4] }
  | _ => none }
def GridLinearWrongFalsely : Prop := gridLinearRow.holds Try.pinned (OpenSpec.ofChange gridLinearWrong)

/-- 'ninepinlaw06.GridLess': WHATEVER THE INPUT: true; the input reads as it did. -/
def gridLessSpec : ChangeSpec := { name := "gridLess", fn := fun _ => fun
  | [d1, d2] => { results := [.lit (.bool true)], args := [d1, d2] }
  | _ => none }
def gridLessRow : OpenClaim := { program := "ytbhlnbllkoomfaa", sum := "45afd87b80785506d7be21c4aef5aecf3014829ab454564adef67ffdd42ebef7", func := "ninepin/ninepinlaw06.GridLess", spec := "gridLess", inPlace := ["math/bits.Add64"], unfollowed := true, recurses := true, apart := false }
def GridLessSaid : Prop := gridLessRow.holds Try.pinned (OpenSpec.ofChange gridLessSpec)

/-- ITS FALSE NEIGHBOUR: 'it returns false'. Refute it at one input. -/
def gridLessWrong : ChangeSpec := { name := "gridLess", fn := fun _ => fun
  | [d1, d2] => { results := [.lit (.bool false)], args := [d1, d2] }
  | _ => none }
def GridLessWrongFalsely : Prop := gridLessRow.holds Try.pinned (OpenSpec.ofChange gridLessWrong)

/-- 'ninepinlaw06.GridOrder': WHATEVER THE INPUT: true; the input reads as it did. -/
def gridOrderSpec : ChangeSpec := { name := "gridOrder", fn := fun _ => fun
  | [d1, d2, d3] => { results := [.lit (.bool true)], args := [d1, d2, d3] }
  | _ => none }
def gridOrderRow : OpenClaim := { program := "ytbhlnbllkoomfaa", sum := "45afd87b80785506d7be21c4aef5aecf3014829ab454564adef67ffdd42ebef7", func := "ninepin/ninepinlaw06.GridOrder", spec := "gridOrder", inPlace := ["math/bits.Add64"], unfollowed := true, recurses := true, apart := false }
def GridOrderSaid : Prop := gridOrderRow.holds Try.pinned (OpenSpec.ofChange gridOrderSpec)

/-- ITS FALSE NEIGHBOUR: 'it returns false'. Refute it at one input. -/
def gridOrderWrong : ChangeSpec := { name := "gridOrder", fn := fun _ => fun
  | [d1, d2, d3] => { results := [.lit (.bool false)], args := [d1, d2, d3] }
  | _ => none }
def GridOrderWrongFalsely : Prop := gridOrderRow.holds Try.pinned (OpenSpec.ofChange gridOrderWrong)

/-- 'ninepinlaw06.GridRound': WHATEVER THE INPUT: true; the input reads as it did. -/
def gridRoundSpec : ChangeSpec := { name := "gridRound", fn := fun _ => fun
  | [d1, d2] => { results := [.lit (.bool true)], args := [d1, d2] }
  | _ => none }
def gridRoundRow : OpenClaim := { program := "ytbhlnbllkoomfaa", sum := "45afd87b80785506d7be21c4aef5aecf3014829ab454564adef67ffdd42ebef7", func := "ninepin/ninepinlaw06.GridRound", spec := "gridRound", inPlace := ["math/bits.Add64"], unfollowed := true, recurses := true, apart := false }
def GridRoundSaid : Prop := gridRoundRow.holds Try.pinned (OpenSpec.ofChange gridRoundSpec)

/-- ITS FALSE NEIGHBOUR: 'it returns false'. Refute it at one input. -/
def gridRoundWrong : ChangeSpec := { name := "gridRound", fn := fun _ => fun
  | [d1, d2] => { results := [.lit (.bool false)], args := [d1, d2] }
  | _ => none }
def GridRoundWrongFalsely : Prop := gridRoundRow.holds Try.pinned (OpenSpec.ofChange gridRoundWrong)

/-- 'ninepinlaw06.GridNearest': WHATEVER THE INPUT: true; the input reads as it did. -/
def gridNearestSpec : ChangeSpec := { name := "gridNearest", fn := fun _ => fun
  | [d1, d2, d3] => { results := [.lit (.bool true)], args := [d1, d2, d3] }
  | _ => none }
def gridNearestRow : OpenClaim := { program := "ytbhlnbllkoomfaa", sum := "45afd87b80785506d7be21c4aef5aecf3014829ab454564adef67ffdd42ebef7", func := "ninepin/ninepinlaw06.GridNearest", spec := "gridNearest", inPlace := ["math/bits.Add64"], unfollowed := true, recurses := true, apart := false }
def GridNearestSaid : Prop := gridNearestRow.holds Try.pinned (OpenSpec.ofChange gridNearestSpec)

/-- ITS FALSE NEIGHBOUR: 'it returns false'. Refute it at one input. -/
def gridNearestWrong : ChangeSpec := { name := "gridNearest", fn := fun _ => fun
  | [d1, d2, d3] => { results := [.lit (.bool false)], args := [d1, d2, d3] }
  | _ => none }
def GridNearestWrongFalsely : Prop := gridNearestRow.holds Try.pinned (OpenSpec.ofChange gridNearestWrong)

/- THE SECOND FORM. 'bulk': how many values and letters a reading holds, each counted each time it is reached (what is shared counts as often as it is met; a slice's spare places count too). A statement '..UptoSaid' is the law's where the arguments, and the package variables that the reading takes, are together of bulk at most 1048576: NARROWER than '..Said'. Prove '..Said' where nothing that the law and all that it calls make is longer than what came in: it says more and counts as full. Else prove '..UptoSaid'. A law counts once. -/
mutual
def uptoBulk {H : Type} : DataW H → Nat
  | .lit (.string bytes) => bytes.length + 1
  | .lit _ => 1
  | .nil => 1
  | .ptr d => uptoBulk d + 1
  | .slice elems spare => uptoBulkAll elems + uptoBulkAll spare + 1
  | .agg parts => uptoBulkAll parts + 1
  | .iface _ d => uptoBulk d + 1
  | .map entries => uptoBulkEntries entries + 1
  | .held _ => 1
def uptoBulkAll {H : Type} : List (DataW H) → Nat
  | [] => 0
  | d :: r => uptoBulk d + uptoBulkAll r
def uptoBulkEntries {H : Type} : List (Lit × DataW H) → Nat
  | [] => 0
  | x :: r => uptoBulkEntry x + uptoBulkEntries r
def uptoBulkEntry {H : Type} : Lit × DataW H → Nat
  | (.string bytes, d) => bytes.length + uptoBulk d + 1
  | (_, d) => uptoBulk d + 1
 end
def uptoSmall : (H : Type) → List (DataW H) → Bool := fun _ ds => decide (uptoBulkAll ds ≤ 1048576)
def OpenSpec.upto (s : _root_.Go.ChangeSpec) : _root_.Go.OpenSpec := { _root_.Go.OpenSpec.ofChange s with cond := some uptoSmall }

/-- 'ninepinlaw06.GridAlong', WHERE WHAT IT READS IS OF BULK AT MOST 1048576: true; the input reads as it did. -/
def gridAlongUptoRow : OpenClaim := { program := "ytbhlnbllkoomfaa", sum := "45afd87b80785506d7be21c4aef5aecf3014829ab454564adef67ffdd42ebef7", func := "ninepin/ninepinlaw06.GridAlong", spec := "gridAlong", inPlace := ["math/bits.Add64"], unfollowed := true, recurses := true, apart := false, narrowed := true }
def GridAlongUptoSaid : Prop := gridAlongUptoRow.holds Try.pinned (OpenSpec.upto gridAlongSpec)

/-- 'ninepinlaw06.GridPrime', WHERE WHAT IT READS IS OF BULK AT MOST 1048576: true; the input reads as it did. -/
def gridPrimeUptoRow : OpenClaim := { program := "ytbhlnbllkoomfaa", sum := "45afd87b80785506d7be21c4aef5aecf3014829ab454564adef67ffdd42ebef7", func := "ninepin/ninepinlaw06.GridPrime", spec := "gridPrime", inPlace := ["math/bits.Add64"], unfollowed := true, recurses := true, apart := false, narrowed := true }
def GridPrimeUptoSaid : Prop := gridPrimeUptoRow.holds Try.pinned (OpenSpec.upto gridPrimeSpec)

/-- 'ninepinlaw06.GridDet', WHERE WHAT IT READS IS OF BULK AT MOST 1048576: true; the input reads as it did. -/
def gridDetUptoRow : OpenClaim := { program := "ytbhlnbllkoomfaa", sum := "45afd87b80785506d7be21c4aef5aecf3014829ab454564adef67ffdd42ebef7", func := "ninepin/ninepinlaw06.GridDet", spec := "gridDet", inPlace := ["math/bits.Add64"], unfollowed := true, recurses := true, apart := false, narrowed := true }
def GridDetUptoSaid : Prop := gridDetUptoRow.holds Try.pinned (OpenSpec.upto gridDetSpec)

/-- 'ninepinlaw06.GridSame', WHERE WHAT IT READS IS OF BULK AT MOST 1048576: true; the input reads as it did. -/
def gridSameUptoRow : OpenClaim := { program := "ytbhlnbllkoomfaa", sum := "45afd87b80785506d7be21c4aef5aecf3014829ab454564adef67ffdd42ebef7", func := "ninepin/ninepinlaw06.GridSame", spec := "gridSame", inPlace := ["math/bits.Add64"], unfollowed := true, recurses := true, apart := false, narrowed := true }
def GridSameUptoSaid : Prop := gridSameUptoRow.holds Try.pinned (OpenSpec.upto gridSameSpec)

/-- 'ninepinlaw06.GridProducts', WHERE WHAT IT READS IS OF BULK AT MOST 1048576: true; the input reads as it did. -/
def gridProductsUptoRow : OpenClaim := { program := "ytbhlnbllkoomfaa", sum := "45afd87b80785506d7be21c4aef5aecf3014829ab454564adef67ffdd42ebef7", func := "ninepin/ninepinlaw06.GridProducts", spec := "gridProducts", inPlace := ["math/bits.Add64"], unfollowed := true, recurses := true, apart := false, narrowed := true }
def GridProductsUptoSaid : Prop := gridProductsUptoRow.holds Try.pinned (OpenSpec.upto gridProductsSpec)

/-- 'ninepinlaw06.GridLagrange', WHERE WHAT IT READS IS OF BULK AT MOST 1048576: true; the input reads as it did. -/
def gridLagrangeUptoRow : OpenClaim := { program := "ytbhlnbllkoomfaa", sum := "45afd87b80785506d7be21c4aef5aecf3014829ab454564adef67ffdd42ebef7", func := "ninepin/ninepinlaw06.GridLagrange", spec := "gridLagrange", inPlace := ["math/bits.Add64"], unfollowed := true, recurses := true, apart := false, narrowed := true }
def GridLagrangeUptoSaid : Prop := gridLagrangeUptoRow.holds Try.pinned (OpenSpec.upto gridLagrangeSpec)

/-- 'ninepinlaw06.GridLinear', WHERE WHAT IT READS IS OF BULK AT MOST 1048576: true; the input reads as it did. -/
def gridLinearUptoRow : OpenClaim := { program := "ytbhlnbllkoomfaa", sum := "45afd87b80785506d7be21c4aef5aecf3014829ab454564adef67ffdd42ebef7", func := "ninepin/ninepinlaw06.GridLinear", spec := "gridLinear", inPlace := ["math/bits.Add64"], unfollowed := true, recurses := true, apart := false, narrowed := true }
def GridLinearUptoSaid : Prop := gridLinearUptoRow.holds Try.pinned (OpenSpec.upto gridLinearSpec)

/-- 'ninepinlaw06.GridLess', WHERE WHAT IT READS IS OF BULK AT MOST 1048576: true; the input reads as it did. -/
def gridLessUptoRow : OpenClaim := { program := "ytbhlnbllkoomfaa", sum := "45afd87b80785506d7be21c4aef5aecf3014829ab454564adef67ffdd42ebef7", func := "ninepin/ninepinlaw06.GridLess", spec := "gridLess", inPlace := ["math/bits.Add64"], unfollowed := true, recurses := true, apart := false, narrowed := true }
def GridLessUptoSaid : Prop := gridLessUptoRow.holds Try.pinned (OpenSpec.upto gridLessSpec)

/-- 'ninepinlaw06.GridOrder', WHERE WHAT IT READS IS OF BULK AT MOST 1048576: true; the input reads as it did. -/
def gridOrderUptoRow : OpenClaim := { program := "ytbhlnbllkoomfaa", sum := "45afd87b80785506d7be21c4aef5aecf3014829ab454564adef67ffdd42ebef7", func := "ninepin/ninepinlaw06.GridOrder", spec := "gridOrder", inPlace := ["math/bits.Add64"], unfollowed := true, recurses := true, apart := false, narrowed := true }
def GridOrderUptoSaid : Prop := gridOrderUptoRow.holds Try.pinned (OpenSpec.upto gridOrderSpec)

/-- 'ninepinlaw06.GridRound', WHERE WHAT IT READS IS OF BULK AT MOST 1048576: true; the input reads as it did. -/
def gridRoundUptoRow : OpenClaim := { program := "ytbhlnbllkoomfaa", sum := "45afd87b80785506d7be21c4aef5aecf3014829ab454564adef67ffdd42ebef7", func := "ninepin/ninepinlaw06.GridRound", spec := "gridRound", inPlace := ["math/bits.Add64"], unfollowed := true, recurses := true, apart := false, narrowed := true }
def GridRoundUptoSaid : Prop := gridRoundUptoRow.holds Try.pinned (OpenSpec.upto gridRoundSpec)

/-- 'ninepinlaw06.GridNearest', WHERE WHAT IT READS IS OF BULK AT MOST 1048576: true; the input reads as it did. -/
def gridNearestUptoRow : OpenClaim := { program := "ytbhlnbllkoomfaa", sum := "45afd87b80785506d7be21c4aef5aecf3014829ab454564adef67ffdd42ebef7", func := "ninepin/ninepinlaw06.GridNearest", spec := "gridNearest", inPlace := ["math/bits.Add64"], unfollowed := true, recurses := true, apart := false, narrowed := true }
def GridNearestUptoSaid : Prop := gridNearestUptoRow.holds Try.pinned (OpenSpec.upto gridNearestSpec)

end Rows
end Go.Proofs.Ytbhlnbllkoomfaa
