/-
  No cell of these rows narrows 'for every input' (looked for: loops, veiled, ifaces, maps, wideKeys, modest, calm, conditions, laid).
  DERIVED. THE GIVEN ROWS OF THIS SEAT. 5 by the template 'for every input the law returns true; each argument reads behind the call as it read before'; 0 by the template 'total and deterministic' (their statements: YtblffafmkpnjdaaTotals.lean).
  GIVEN WITH THE SEED: the statements are not yours to turn. If you find one false, say at which input.
  Laid BY PROGRAM, IN A SANDBOX (cutbox-rows.mjs): the forced cells as the released guide's own fill.sh prints them over the translation b91635f34a9fdf8c… (all of the seat's roots in one cut). By AI agents, Wed Nov 11 2026. No macro, syntax, notation, axiom, sorry.
-/
import Derived.Test.YtblffafmkpnjdaaChecked
import GoSem.Claim
import GoSem.ClaimJoined
import GoSem.ClaimMapViews
import Derived.JoinedTies
import Derived.KernelRfl
namespace Go.Proofs.Ytblffafmkpnjdaa
/- THE CELL 'sum', in the pinned program and in every row, IS THE sha256 OF THE DUMP (.gsa) THAT YtblffafmkpnjdaaProg.lean LOADS. Nothing in Lean hashes anything: it is a label: what it is worth is what the hold of that sum in a sandbox is worth. -/
noncomputable def Try.pinned : Pinned := { name := "ytblffafmkpnjdaa", sum := "b91635f34a9fdf8ce87fb16067543dd69f2719100b082fb45daacce347918f19", checked := Try.checked }
namespace Rows
def none {H : Type} : Left H := { results := [], args := [] }

/-- 'ninepinlaw23.SolveSigns': WHATEVER THE INPUT: true; the input reads as it did. -/
def solveSignsSpec : ChangeSpec := { name := "solveSigns", fn := fun _ => fun
  | [d1, d2, d3] => { results := [.lit (.bool true)], args := [d1, d2, d3] }
  | _ => none }
def solveSignsRow : OpenClaim := { program := "ytblffafmkpnjdaa", sum := "b91635f34a9fdf8ce87fb16067543dd69f2719100b082fb45daacce347918f19", func := "ninepin/ninepinlaw23.SolveSigns", spec := "solveSigns", inPlace := ["math/bits.Add64"], unfollowed := true, recurses := true, apart := false }
def SolveSignsSaid : Prop := solveSignsRow.holds Try.pinned (OpenSpec.ofChange solveSignsSpec)

/-- ITS FALSE NEIGHBOUR: 'it returns false'. Refute it at one input. -/
def solveSignsWrong : ChangeSpec := { name := "solveSigns", fn := fun _ => fun
  | [d1, d2, d3] => { results := [.lit (.bool false)], args := [d1, d2, d3] }
  | _ => none }
def SolveSignsWrongFalsely : Prop := solveSignsRow.holds Try.pinned (OpenSpec.ofChange solveSignsWrong)

/-- 'ninepinlaw23.SolveCones': WHATEVER THE INPUT: true; the input reads as it did. -/
def solveConesSpec : ChangeSpec := { name := "solveCones", fn := fun _ => fun
  | [d1, d2, d3] => { results := [.lit (.bool true)], args := [d1, d2, d3] }
  | _ => none }
def solveConesRow : OpenClaim := { program := "ytblffafmkpnjdaa", sum := "b91635f34a9fdf8ce87fb16067543dd69f2719100b082fb45daacce347918f19", func := "ninepin/ninepinlaw23.SolveCones", spec := "solveCones", inPlace := ["math/bits.Add64"], unfollowed := true, recurses := true, apart := false }
def SolveConesSaid : Prop := solveConesRow.holds Try.pinned (OpenSpec.ofChange solveConesSpec)

/-- ITS FALSE NEIGHBOUR: 'it returns false'. Refute it at one input. -/
def solveConesWrong : ChangeSpec := { name := "solveCones", fn := fun _ => fun
  | [d1, d2, d3] => { results := [.lit (.bool false)], args := [d1, d2, d3] }
  | _ => none }
def SolveConesWrongFalsely : Prop := solveConesRow.holds Try.pinned (OpenSpec.ofChange solveConesWrong)

/-- 'ninepinlaw23.SolveParting': WHATEVER THE INPUT: true; the input reads as it did. -/
def solvePartingSpec : ChangeSpec := { name := "solveParting", fn := fun _ => fun
  | [d1, d2, d3, d4] => { results := [.lit (.bool true)], args := [d1, d2, d3, d4] }
  | _ => none }
def solvePartingRow : OpenClaim := { program := "ytblffafmkpnjdaa", sum := "b91635f34a9fdf8ce87fb16067543dd69f2719100b082fb45daacce347918f19", func := "ninepin/ninepinlaw23.SolveParting", spec := "solveParting", inPlace := ["math/bits.Add64"], unfollowed := true, recurses := true, apart := false }
def SolvePartingSaid : Prop := solvePartingRow.holds Try.pinned (OpenSpec.ofChange solvePartingSpec)

/-- ITS FALSE NEIGHBOUR: 'it returns false'. Refute it at one input. -/
def solvePartingWrong : ChangeSpec := { name := "solveParting", fn := fun _ => fun
  | [d1, d2, d3, d4] => { results := [.lit (.bool false)], args := [d1, d2, d3, d4] }
  | _ => none }
def SolvePartingWrongFalsely : Prop := solvePartingRow.holds Try.pinned (OpenSpec.ofChange solvePartingWrong)

/-- 'ninepinlaw23.SolveNone': WHATEVER THE INPUT: true; the input reads as it did. -/
def solveNoneSpec : ChangeSpec := { name := "solveNone", fn := fun _ => fun
  | [d1, d2, d3] => { results := [.lit (.bool true)], args := [d1, d2, d3] }
  | _ => none }
def solveNoneRow : OpenClaim := { program := "ytblffafmkpnjdaa", sum := "b91635f34a9fdf8ce87fb16067543dd69f2719100b082fb45daacce347918f19", func := "ninepin/ninepinlaw23.SolveNone", spec := "solveNone", inPlace := ["math/bits.Add64"], unfollowed := true, recurses := true, apart := false }
def SolveNoneSaid : Prop := solveNoneRow.holds Try.pinned (OpenSpec.ofChange solveNoneSpec)

/-- ITS FALSE NEIGHBOUR: 'it returns false'. Refute it at one input. -/
def solveNoneWrong : ChangeSpec := { name := "solveNone", fn := fun _ => fun
  | [d1, d2, d3] => { results := [.lit (.bool false)], args := [d1, d2, d3] }
  | _ => none }
def SolveNoneWrongFalsely : Prop := solveNoneRow.holds Try.pinned (OpenSpec.ofChange solveNoneWrong)

/-- 'ninepinlaw23.SolveOnce': WHATEVER THE INPUT: true; the input reads as it did. -/
def solveOnceSpec : ChangeSpec := { name := "solveOnce", fn := fun _ => fun
  | [d1, d2, d3] => { results := [.lit (.bool true)], args := [d1, d2, d3] }
  | _ => none }
def solveOnceRow : OpenClaim := { program := "ytblffafmkpnjdaa", sum := "b91635f34a9fdf8ce87fb16067543dd69f2719100b082fb45daacce347918f19", func := "ninepin/ninepinlaw23.SolveOnce", spec := "solveOnce", inPlace := ["math/bits.Add64"], unfollowed := true, recurses := true, apart := false }
def SolveOnceSaid : Prop := solveOnceRow.holds Try.pinned (OpenSpec.ofChange solveOnceSpec)

/-- ITS FALSE NEIGHBOUR: 'it returns false'. Refute it at one input. -/
def solveOnceWrong : ChangeSpec := { name := "solveOnce", fn := fun _ => fun
  | [d1, d2, d3] => { results := [.lit (.bool false)], args := [d1, d2, d3] }
  | _ => none }
def SolveOnceWrongFalsely : Prop := solveOnceRow.holds Try.pinned (OpenSpec.ofChange solveOnceWrong)

/- THE SECOND FORM. 'bulk': how many values and letters a reading holds, each counted each time it is reached (what is shared counts as often as it is met; a slice's spare places count too). A statement '..UptoSaid' is the law's where the arguments, and the package variables that the reading takes, are together of bulk at most 1048576: NARROWER than '..Said'. Prove '..Said' where nothing that the law and all that it calls make is longer than what came in: it says more and counts as full. Else prove '..UptoSaid'. A law counts once. -/
mutual
def uptoBulk {H : Type} : DataW H → Nat
  | .lit (.string bytes) => bytes.length + 1
  | .lit _ => 1
  | .nil => 1
  | .ptr d => uptoBulk d + 1
  | .slice elems spare => uptoBulkAll elems + uptoBulkAll spare + 1
  | .agg parts => uptoBulkAll parts + 1
  | .iface _ d => uptoBulk d + 1
  | .map entries => uptoBulkEntries entries + 1
  | .held _ => 1
def uptoBulkAll {H : Type} : List (DataW H) → Nat
  | [] => 0
  | d :: r => uptoBulk d + uptoBulkAll r
def uptoBulkEntries {H : Type} : List (Lit × DataW H) → Nat
  | [] => 0
  | x :: r => uptoBulkEntry x + uptoBulkEntries r
def uptoBulkEntry {H : Type} : Lit × DataW H → Nat
  | (.string bytes, d) => bytes.length + uptoBulk d + 1
  | (_, d) => uptoBulk d + 1
 end
def uptoSmall : (H : Type) → List (DataW H) → Bool := fun _ ds => decide (uptoBulkAll ds ≤ 1048576)
def OpenSpec.upto (s : _root_.Go.ChangeSpec) : _root_.Go.OpenSpec := { _root_.Go.OpenSpec.ofChange s with cond := some uptoSmall }

/-- 'ninepinlaw23.SolveSigns', WHERE WHAT IT READS IS OF BULK AT MOST 1048576: true; the input reads as it did. -/
def solveSignsUptoRow : OpenClaim := { program := "ytblffafmkpnjdaa", sum := "b91635f34a9fdf8ce87fb16067543dd69f2719100b082fb45daacce347918f19", func := "ninepin/ninepinlaw23.SolveSigns", spec := "solveSigns", inPlace := ["math/bits.Add64"], unfollowed := true, recurses := true, apart := false, narrowed := true }
def SolveSignsUptoSaid : Prop := solveSignsUptoRow.holds Try.pinned (OpenSpec.upto solveSignsSpec)

/-- 'ninepinlaw23.SolveCones', WHERE WHAT IT READS IS OF BULK AT MOST 1048576: true; the input reads as it did. -/
def solveConesUptoRow : OpenClaim := { program := "ytblffafmkpnjdaa", sum := "b91635f34a9fdf8ce87fb16067543dd69f2719100b082fb45daacce347918f19", func := "ninepin/ninepinlaw23.SolveCones", spec := "solveCones", inPlace := ["math/bits.Add64"], unfollowed := true, recurses := true, apart := false, narrowed := true }
def SolveConesUptoSaid : Prop := solveConesUptoRow.holds Try.pinned (OpenSpec.upto solveConesSpec)

/-- 'ninepinlaw23.SolveParting', WHERE WHAT IT READS IS OF BULK AT MOST 1048576: true; the input reads as it did. -/
def solvePartingUptoRow : OpenClaim := { program := "ytblffafmkpnjdaa", sum := "b91635f34a9fdf8ce87fb16067543dd69f2719100b082fb45daacce347918f19", func := "ninepin/ninepinlaw23.SolveParting", spec := "solveParting", inPlace := ["math/bits.Add64"], unfollowed := true, recurses := true, apart := false, narrowed := true }
def SolvePartingUptoSaid : Prop := solvePartingUptoRow.holds Try.pinned (OpenSpec.upto solvePartingSpec)

/-- 'ninepinlaw23.SolveNone', WHERE WHAT IT READS IS OF BULK AT MOST 1048576: true; the input reads as it did. -/
def solveNoneUptoRow : OpenClaim := { program := "ytblffafmkpnjdaa", sum := "b91635f34a9fdf8ce87fb16067543dd69f2719100b082fb45daacce347918f19", func := "ninepin/ninepinlaw23.SolveNone", spec := "solveNone", inPlace := ["math/bits.Add64"], unfollowed := true, recurses := true, apart := false, narrowed := true }
def SolveNoneUptoSaid : Prop := solveNoneUptoRow.holds Try.pinned (OpenSpec.upto solveNoneSpec)

/-- 'ninepinlaw23.SolveOnce', WHERE WHAT IT READS IS OF BULK AT MOST 1048576: true; the input reads as it did. -/
def solveOnceUptoRow : OpenClaim := { program := "ytblffafmkpnjdaa", sum := "b91635f34a9fdf8ce87fb16067543dd69f2719100b082fb45daacce347918f19", func := "ninepin/ninepinlaw23.SolveOnce", spec := "solveOnce", inPlace := ["math/bits.Add64"], unfollowed := true, recurses := true, apart := false, narrowed := true }
def SolveOnceUptoSaid : Prop := solveOnceUptoRow.holds Try.pinned (OpenSpec.upto solveOnceSpec)

end Rows
end Go.Proofs.Ytblffafmkpnjdaa
