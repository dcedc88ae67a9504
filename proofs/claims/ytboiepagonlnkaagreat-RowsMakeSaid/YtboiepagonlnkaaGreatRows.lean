/-
  No cell of these rows narrows 'for every input' (looked for: loops, veiled, ifaces, maps, wideKeys, modest, calm, conditions, laid).
  DERIVED. THE GIVEN ROWS OF THIS SEAT. 3 by the template 'for every input the law returns true; each argument reads behind the call as it read before'; 0 by the template 'total and deterministic' (their statements: YtboiepagonlnkaaGreatTotals.lean).
  GIVEN WITH THE SEED: the statements are not yours to turn. If you find one false, say at which input.
  Laid BY PROGRAM, IN A SANDBOX (cutbox-rows.mjs): the forced cells as the released guide's own fill.sh prints them over the translation 2d677e3a68163d48… (all of the seat's roots in one cut). By AI agents, Wed Nov 11 2026. No macro, syntax, notation, axiom, sorry.
-/
import Derived.Test.YtboiepagonlnkaaGreatChecked
import GoSem.Claim
import GoSem.ClaimJoined
import GoSem.ClaimMapViews
import Derived.JoinedTies
import Derived.KernelRfl
namespace Go.Proofs.YtboiepagonlnkaaGreat
/- THE CELL 'sum', in the pinned program and in every row, IS THE sha256 OF THE DUMP (.gsa) THAT YtboiepagonlnkaaGreatProg.lean LOADS. Nothing in Lean hashes anything: it is a label: what it is worth is what the hold of that sum in a sandbox is worth. -/
noncomputable def Tryz.pinned : Pinned := { name := "ytboiepagonlnkaagreat", sum := "2d677e3a68163d485f40b8c607b1666b4f3546ca6729c1be568bba2cc0dbd144", checked := Tryz.checked }
namespace Rows
def none {H : Type} : Left H := { results := [], args := [] }

/-- 'ninepinlaw22.RowsFrame': WHATEVER THE INPUT: true; the input reads as it did. -/
def rowsFrameSpec : ChangeSpec := { name := "rowsFrame", fn := fun _ => fun
  | [d1, d2, d3] => { results := [.lit (.bool true)], args := [d1, d2, d3] }
  | _ => none }
def rowsFrameRow : OpenClaim := { program := "ytboiepagonlnkaagreat", sum := "2d677e3a68163d485f40b8c607b1666b4f3546ca6729c1be568bba2cc0dbd144", func := "ninepin/ninepinlaw22.RowsFrame", spec := "rowsFrame", inPlace := ["math/bits.Add64"], unfollowed := true, recurses := true, apart := false }
def RowsFrameSaid : Prop := rowsFrameRow.holds Tryz.pinned (OpenSpec.ofChange rowsFrameSpec)

/-- ITS FALSE NEIGHBOUR: 'it returns false'. Refute it at one input. -/
def rowsFrameWrong : ChangeSpec := { name := "rowsFrame", fn := fun _ => fun
  | [d1, d2, d3] => { results := [.lit (.bool false)], args := [d1, d2, d3] }
  | _ => none }
def RowsFrameWrongFalsely : Prop := rowsFrameRow.holds Tryz.pinned (OpenSpec.ofChange rowsFrameWrong)

/-- 'ninepinlaw22.RowsResist': WHATEVER THE INPUT: true; the input reads as it did. -/
def rowsResistSpec : ChangeSpec := { name := "rowsResist", fn := fun _ => fun
  | [d1, d2, d3, d4, d5] => { results := [.lit (.bool true)], args := [d1, d2, d3, d4, d5] }
  | _ => none }
def rowsResistRow : OpenClaim := { program := "ytboiepagonlnkaagreat", sum := "2d677e3a68163d485f40b8c607b1666b4f3546ca6729c1be568bba2cc0dbd144", func := "ninepin/ninepinlaw22.RowsResist", spec := "rowsResist", inPlace := ["math/bits.Add64"], unfollowed := true, recurses := true, apart := false }
def RowsResistSaid : Prop := rowsResistRow.holds Tryz.pinned (OpenSpec.ofChange rowsResistSpec)

/-- ITS FALSE NEIGHBOUR: 'it returns false'. Refute it at one input. -/
def rowsResistWrong : ChangeSpec := { name := "rowsResist", fn := fun _ => fun
  | [d1, d2, d3, d4, d5] => { results := [.lit (.bool false)], args := [d1, d2, d3, d4, d5] }
  | _ => none }
def RowsResistWrongFalsely : Prop := rowsResistRow.holds Tryz.pinned (OpenSpec.ofChange rowsResistWrong)

/-- 'ninepinlaw22.RowsMake': WHATEVER THE INPUT: true; the input reads as it did. -/
def rowsMakeSpec : ChangeSpec := { name := "rowsMake", fn := fun _ => fun
  | [d1, d2, d3, d4, d5] => { results := [.lit (.bool true)], args := [d1, d2, d3, d4, d5] }
  | _ => none }
def rowsMakeRow : OpenClaim := { program := "ytboiepagonlnkaagreat", sum := "2d677e3a68163d485f40b8c607b1666b4f3546ca6729c1be568bba2cc0dbd144", func := "ninepin/ninepinlaw22.RowsMake", spec := "rowsMake", inPlace := ["math/bits.Add64"], unfollowed := true, recurses := true, apart := false }
def RowsMakeSaid : Prop := rowsMakeRow.holds Tryz.pinned (OpenSpec.ofChange rowsMakeSpec)

/-- ITS FALSE NEIGHBOUR: 'it returns false'. Refute it at one input. -/
def rowsMakeWrong : ChangeSpec := { name := "rowsMake", fn := fun _ => fun
  | [d1, d2, d3, d4, d5] => { results := [.lit (.bool false)], args := [d1, d2, d3, d4, d5] }
  | _ => none }
def RowsMakeWrongFalsely : Prop := rowsMakeRow.holds Tryz.pinned (OpenSpec.ofChange rowsMakeWrong)

/- THE SECOND FORM. 'bulk': how many values and letters a reading holds, each counted each time it is reached (what is shared counts as often as it is met; a slice's spare places count too). A statement '..UptoSaid' is the law's where the arguments, and the package variables that the reading takes, are together of bulk at most 1048576: NARROWER than '..Said'. Prove '..Said' where nothing that the law and all that it calls make is longer than what came in: it says more and counts as full. Else prove '..UptoSaid'. A law counts once. -/
mutual
def uptoBulk {H : Type} : DataW H → Nat
  | .lit (.string bytes) => bytes.length + 1
  | .lit _ => 1
  | .nil => 1
  | .ptr d => uptoBulk d + 1
  | .slice elems spare => uptoBulkAll elems + uptoBulkAll spare + 1
  | .agg parts => uptoBulkAll parts + 1
  | .iface _ d => uptoBulk d + 1
  | .map entries => uptoBulkEntries entries + 1
  | .held _ => 1
def uptoBulkAll {H : Type} : List (DataW H) → Nat
  | [] => 0
  | d :: r => uptoBulk d + uptoBulkAll r
def uptoBulkEntries {H : Type} : List (Lit × DataW H) → Nat
  | [] => 0
  | x :: r => uptoBulkEntry x + uptoBulkEntries r
def uptoBulkEntry {H : Type} : Lit × DataW H → Nat
  | (.string bytes, d) => bytes.length + uptoBulk d + 1
  | (_, d) => uptoBulk d + 1
 end
def uptoSmall : (H : Type) → List (DataW H) → Bool := fun _ ds => decide (uptoBulkAll ds ≤ 1048576)
def OpenSpec.upto (s : _root_.Go.ChangeSpec) : _root_.Go.OpenSpec := { _root_.Go.OpenSpec.ofChange s with cond := some uptoSmall }

/-- 'ninepinlaw22.RowsFrame', WHERE WHAT IT READS IS OF BULK AT MOST 1048576: true; the input reads as it did. -/
def rowsFrameUptoRow : OpenClaim := { program := "ytboiepagonlnkaagreat", sum := "2d677e3a68163d485f40b8c607b1666b4f3546ca6729c1be568bba2cc0dbd144", func := "ninepin/ninepinlaw22.RowsFrame", spec := "rowsFrame", inPlace := ["math/bits.Add64"], unfollowed := true, recurses := true, apart := false, narrowed := true }
def RowsFrameUptoSaid : Prop := rowsFrameUptoRow.holds Tryz.pinned (OpenSpec.upto rowsFrameSpec)

/-- 'ninepinlaw22.RowsResist', WHERE WHAT IT READS IS OF BULK AT MOST 1048576: true; the input reads as it did. -/
def rowsResistUptoRow : OpenClaim := { program := "ytboiepagonlnkaagreat", sum := "2d677e3a68163d485f40b8c607b1666b4f3546ca6729c1be568bba2cc0dbd144", func := "ninepin/ninepinlaw22.RowsResist", spec := "rowsResist", inPlace := ["math/bits.Add64"], unfollowed := true, recurses := true, apart := false, narrowed := true }
def RowsResistUptoSaid : Prop := rowsResistUptoRow.holds Tryz.pinned (OpenSpec.upto rowsResistSpec)

/-- 'ninepinlaw22.RowsMake', WHERE WHAT IT READS IS OF BULK AT MOST 1048576: true; the input reads as it did. -/
def rowsMakeUptoRow : OpenClaim := { program := "ytboiepagonlnkaagreat", sum := "2d677e3a68163d485f40b8c607b1666b4f3546ca6729c1be568bba2cc0dbd144", func := "ninepin/ninepinlaw22.RowsMake", spec := "rowsMake", inPlace := ["math/bits.Add64"], unfollowed := true, recurses := true, apart := false, narrowed := true }
def RowsMakeUptoSaid : Prop := rowsMakeUptoRow.holds Tryz.pinned (OpenSpec.upto rowsMakeSpec)

end Rows
end Go.Proofs.YtboiepagonlnkaaGreat
