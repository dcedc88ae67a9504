/-
  No cell of these rows narrows 'for every input' (looked for: loops, veiled, ifaces, maps, wideKeys, modest, calm, conditions, laid).
  DERIVED. THE GIVEN ROWS OF THIS SEAT. 4 by the template 'for every input the law returns true; each argument reads behind the call as it read before'; 0 by the template 'total and deterministic' (their statements: YtboiepagonlnkaaTotals.lean).
  GIVEN WITH THE SEED: the statements are not yours to turn. If you find one false, say at which input.
  Laid BY PROGRAM, IN A SANDBOX (cutbox-rows.mjs): the forced cells as the released guide's own fill.sh prints them over the translation 1f77ace63618da44… (all of the seat's roots in one cut). By AI agents, Wed Nov 11 2026. No macro, syntax, notation, axiom, sorry.
-/
import Derived.Test.YtboiepagonlnkaaChecked
import GoSem.Claim
import GoSem.ClaimJoined
import GoSem.ClaimMapViews
import Derived.JoinedTies
import Derived.KernelRfl
namespace Go.Proofs.Ytboiepagonlnkaa
/- THE CELL 'sum', in the pinned program and in every row, IS THE sha256 OF THE DUMP (.gsa) THAT YtboiepagonlnkaaProg.lean LOADS. Nothing in Lean hashes anything: it is a label: what it is worth is what the hold of that sum in a sandbox is worth. -/
noncomputable def Try.pinned : Pinned := { name := "ytboiepagonlnkaa", sum := "1f77ace63618da4485c415f3376422a0fba9ac2b92104d67182f1f83de8c8715", checked := Try.checked }
namespace Rows
def none {H : Type} : Left H := { results := [], args := [] }

/-- 'ninepinlaw22.RowsAcross': WHATEVER THE INPUT: true; the input reads as it did. -/
def rowsAcrossSpec : ChangeSpec := { name := "rowsAcross", fn := fun _ => fun
  | [d] => { results := [.lit (.bool true)], args := [d] }
  | _ => none }
def rowsAcrossRow : OpenClaim := { program := "ytboiepagonlnkaa", sum := "1f77ace63618da4485c415f3376422a0fba9ac2b92104d67182f1f83de8c8715", func := "ninepin/ninepinlaw22.RowsAcross", spec := "rowsAcross", inPlace := ["math/bits.Add64"], unfollowed := true, recurses := true, apart := false }
def RowsAcrossSaid : Prop := rowsAcrossRow.holds Try.pinned (OpenSpec.ofChange rowsAcrossSpec)

/-- ITS FALSE NEIGHBOUR: 'it returns false'. Refute it at one input. -/
def rowsAcrossWrong : ChangeSpec := { name := "rowsAcross", fn := fun _ => fun
  | [d] => { results := [.lit (.bool false)], args := [d] }
  | _ => none }
def RowsAcrossWrongFalsely : Prop := rowsAcrossRow.holds Try.pinned (OpenSpec.ofChange rowsAcrossWrong)

/-- 'ninepinlaw22.RowsStill': WHATEVER THE INPUT: true; the input reads as it did. -/
def rowsStillSpec : ChangeSpec := { name := "rowsStill", fn := fun _ => fun
  | [d1, d2, d3, d4, d5] => { results := [.lit (.bool true)], args := [d1, d2, d3, d4, d5] }
  | _ => none }
def rowsStillRow : OpenClaim := { program := "ytboiepagonlnkaa", sum := "1f77ace63618da4485c415f3376422a0fba9ac2b92104d67182f1f83de8c8715", func := "ninepin/ninepinlaw22.RowsStill", spec := "rowsStill", inPlace := ["math/bits.Add64"], unfollowed := true, recurses := true, apart := false }
def RowsStillSaid : Prop := rowsStillRow.holds Try.pinned (OpenSpec.ofChange rowsStillSpec)

/-- ITS FALSE NEIGHBOUR: 'it returns false'. Refute it at one input. -/
def rowsStillWrong : ChangeSpec := { name := "rowsStill", fn := fun _ => fun
  | [d1, d2, d3, d4, d5] => { results := [.lit (.bool false)], args := [d1, d2, d3, d4, d5] }
  | _ => none }
def RowsStillWrongFalsely : Prop := rowsStillRow.holds Try.pinned (OpenSpec.ofChange rowsStillWrong)

/-- 'ninepinlaw22.RowsAims': WHATEVER THE INPUT: true; the input reads as it did. -/
def rowsAimsSpec : ChangeSpec := { name := "rowsAims", fn := fun _ => fun
  | [d1, d2, d3] => { results := [.lit (.bool true)], args := [d1, d2, d3] }
  | _ => none }
def rowsAimsRow : OpenClaim := { program := "ytboiepagonlnkaa", sum := "1f77ace63618da4485c415f3376422a0fba9ac2b92104d67182f1f83de8c8715", func := "ninepin/ninepinlaw22.RowsAims", spec := "rowsAims", inPlace := ["math/bits.Add64"], unfollowed := true, recurses := true, apart := false }
def RowsAimsSaid : Prop := rowsAimsRow.holds Try.pinned (OpenSpec.ofChange rowsAimsSpec)

/-- ITS FALSE NEIGHBOUR: 'it returns false'. Refute it at one input. -/
def rowsAimsWrong : ChangeSpec := { name := "rowsAims", fn := fun _ => fun
  | [d1, d2, d3] => { results := [.lit (.bool false)], args := [d1, d2, d3] }
  | _ => none }
def RowsAimsWrongFalsely : Prop := rowsAimsRow.holds Try.pinned (OpenSpec.ofChange rowsAimsWrong)

/-- 'ninepinlaw22.RowsBoth': WHATEVER THE INPUT: true; the input reads as it did. -/
def rowsBothSpec : ChangeSpec := { name := "rowsBoth", fn := fun _ => fun
  | [d1, d2, d3, d4, d5] => { results := [.lit (.bool true)], args := [d1, d2, d3, d4, d5] }
  | _ => none }
def rowsBothRow : OpenClaim := { program := "ytboiepagonlnkaa", sum := "1f77ace63618da4485c415f3376422a0fba9ac2b92104d67182f1f83de8c8715", func := "ninepin/ninepinlaw22.RowsBoth", spec := "rowsBoth", inPlace := ["math/bits.Add64"], unfollowed := true, recurses := true, apart := false }
def RowsBothSaid : Prop := rowsBothRow.holds Try.pinned (OpenSpec.ofChange rowsBothSpec)

/-- ITS FALSE NEIGHBOUR: 'it returns false'. Refute it at one input. -/
def rowsBothWrong : ChangeSpec := { name := "rowsBoth", fn := fun _ => fun
  | [d1, d2, d3, d4, d5] => { results := [.lit (.bool false)], args := [d1, d2, d3, d4, d5] }
  | _ => none }
def RowsBothWrongFalsely : Prop := rowsBothRow.holds Try.pinned (OpenSpec.ofChange rowsBothWrong)

/- THE SECOND FORM. 'bulk': how many values and letters a reading holds, each counted each time it is reached (what is shared counts as often as it is met; a slice's spare places count too). A statement '..UptoSaid' is the law's where the arguments, and the package variables that the reading takes, are together of bulk at most 1048576: NARROWER than '..Said'. Prove '..Said' where nothing that the law and all that it calls make is longer than what came in: it says more and counts as full. Else prove '..UptoSaid'. A law counts once. -/
mutual
def uptoBulk {H : Type} : DataW H → Nat
  | .lit (.string bytes) => bytes.length + 1
  | .lit _ => 1
  | .nil => 1
  | .ptr d => uptoBulk d + 1
  | .slice elems spare => uptoBulkAll elems + uptoBulkAll spare + 1
  | .agg parts => uptoBulkAll parts + 1
  | .iface _ d => uptoBulk d + 1
  | .map entries => uptoBulkEntries entries + 1
  | .held _ => 1
def uptoBulkAll {H : Type} : List (DataW H) → Nat
  | [] => 0
  | d :: r => uptoBulk d + uptoBulkAll r
def uptoBulkEntries {H : Type} : List (Lit × DataW H) → Nat
  | [] => 0
  | x :: r => uptoBulkEntry x + uptoBulkEntries r
def uptoBulkEntry {H : Type} : Lit × DataW H → Nat
  | (.string bytes, d) => bytes.length + uptoBulk d + 1
  | (_, d) => uptoBulk d + 1
 end
def uptoSmall : (H : Type) → List (DataW H) → Bool := fun _ ds => decide (uptoBulkAll ds ≤ 1048576)
def OpenSpec.upto (s : _root_.Go.ChangeSpec) : _root_.Go.OpenSpec := { _root_.Go.OpenSpec.ofChange s with cond := some uptoSmall }

/-- 'ninepinlaw22.RowsAcross', WHERE WHAT IT READS IS OF BULK AT MOST 1048576: true; the input reads as it did. -/
def rowsAcrossUptoRow : OpenClaim := { program := "ytboiepagonlnkaa", sum := "1f77ace63618da4485c415f3376422a0fba9ac2b92104d67182f1f83de8c8715", func := "ninepin/ninepinlaw22.RowsAcross", spec := "rowsAcross", inPlace := ["math/bits.Add64"], unfollowed := true, recurses := true, apart := false, narrowed := true }
def RowsAcrossUptoSaid : Prop := rowsAcrossUptoRow.holds Try.pinned (OpenSpec.upto rowsAcrossSpec)

/-- 'ninepinlaw22.RowsStill', WHERE WHAT IT READS IS OF BULK AT MOST 1048576: true; the input reads as it did. -/
def rowsStillUptoRow : OpenClaim := { program := "ytboiepagonlnkaa", sum := "1f77ace63618da4485c415f3376422a0fba9ac2b92104d67182f1f83de8c8715", func := "ninepin/ninepinlaw22.RowsStill", spec := "rowsStill", inPlace := ["math/bits.Add64"], unfollowed := true, recurses := true, apart := false, narrowed := true }
def RowsStillUptoSaid : Prop := rowsStillUptoRow.holds Try.pinned (OpenSpec.upto rowsStillSpec)

/-- 'ninepinlaw22.RowsAims', WHERE WHAT IT READS IS OF BULK AT MOST 1048576: true; the input reads as it did. -/
def rowsAimsUptoRow : OpenClaim := { program := "ytboiepagonlnkaa", sum := "1f77ace63618da4485c415f3376422a0fba9ac2b92104d67182f1f83de8c8715", func := "ninepin/ninepinlaw22.RowsAims", spec := "rowsAims", inPlace := ["math/bits.Add64"], unfollowed := true, recurses := true, apart := false, narrowed := true }
def RowsAimsUptoSaid : Prop := rowsAimsUptoRow.holds Try.pinned (OpenSpec.upto rowsAimsSpec)

/-- 'ninepinlaw22.RowsBoth', WHERE WHAT IT READS IS OF BULK AT MOST 1048576: true; the input reads as it did. -/
def rowsBothUptoRow : OpenClaim := { program := "ytboiepagonlnkaa", sum := "1f77ace63618da4485c415f3376422a0fba9ac2b92104d67182f1f83de8c8715", func := "ninepin/ninepinlaw22.RowsBoth", spec := "rowsBoth", inPlace := ["math/bits.Add64"], unfollowed := true, recurses := true, apart := false, narrowed := true }
def RowsBothUptoSaid : Prop := rowsBothUptoRow.holds Try.pinned (OpenSpec.upto rowsBothSpec)

end Rows
end Go.Proofs.Ytboiepagonlnkaa
