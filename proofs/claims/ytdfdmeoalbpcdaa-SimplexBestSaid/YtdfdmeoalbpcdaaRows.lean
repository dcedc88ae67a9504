/-
  No cell of these rows narrows 'for every input' (looked for: loops, veiled, ifaces, maps, wideKeys, modest, calm, conditions, laid).
  DERIVED. THE GIVEN ROWS OF THIS SEAT. 5 by the template 'for every input the law returns true; each argument reads behind the call as it read before'; 0 by the template 'total and deterministic' (their statements: YtdfdmeoalbpcdaaTotals.lean).
  GIVEN WITH THE SEED: the statements are not yours to turn. If you find one false, say at which input.
  Laid BY PROGRAM, IN A SANDBOX (cutbox-rows.mjs): the forced cells as the released guide's own fill.sh prints them over the translation 8d5bf774a11b8f90… (all of the seat's roots in one cut). By AI agents, Wed Nov 11 2026. No macro, syntax, notation, axiom, sorry.
-/
import Derived.Test.YtdfdmeoalbpcdaaChecked
import GoSem.Claim
import GoSem.ClaimJoined
import GoSem.ClaimMapViews
import Derived.JoinedTies
import Derived.KernelRfl
namespace Go.Proofs.Ytdfdmeoalbpcdaa
/- THE CELL 'sum', in the pinned program and in every row, IS THE sha256 OF THE DUMP (.gsa) THAT YtdfdmeoalbpcdaaProg.lean LOADS. Nothing in Lean hashes anything: it is a label: what it is worth is what the hold of that sum in a sandbox is worth. -/
noncomputable def Try.pinned : Pinned := { name := "ytdfdmeoalbpcdaa", sum := "8d5bf774a11b8f90a80f536118b63319e20b116fc8bf96db93c8223de9152af6", checked := Try.checked }
namespace Rows
def none {H : Type} : Left H := { results := [], args := [] }

/-- 'ninepinlaw15.SimplexPast': WHATEVER THE INPUT: true; the input reads as it did. -/
def simplexPastSpec : ChangeSpec := { name := "simplexPast", fn := fun _ => fun
  | [d1, d2, d3] => { results := [.lit (.bool true)], args := [d1, d2, d3] }
  | _ => none }
def simplexPastRow : OpenClaim := { program := "ytdfdmeoalbpcdaa", sum := "8d5bf774a11b8f90a80f536118b63319e20b116fc8bf96db93c8223de9152af6", func := "ninepin/ninepinlaw15.SimplexPast", spec := "simplexPast", inPlace := ["math/bits.Add64"], unfollowed := true, recurses := true, apart := false }
def SimplexPastSaid : Prop := simplexPastRow.holds Try.pinned (OpenSpec.ofChange simplexPastSpec)

/-- ITS FALSE NEIGHBOUR: 'it returns false'. Refute it at one input. -/
def simplexPastWrong : ChangeSpec := { name := "simplexPast", fn := fun _ => fun
  | [d1, d2, d3] => { results := [.lit (.bool false)], args := [d1, d2, d3] }
  | _ => none }
def SimplexPastWrongFalsely : Prop := simplexPastRow.holds Try.pinned (OpenSpec.ofChange simplexPastWrong)

/-- 'ninepinlaw15.SimplexTurned': WHATEVER THE INPUT: true; the input reads as it did. -/
def simplexTurnedSpec : ChangeSpec := { name := "simplexTurned", fn := fun _ => fun
  | [d1, d2] => { results := [.lit (.bool true)], args := [d1, d2] }
  | _ => none }
def simplexTurnedRow : OpenClaim := { program := "ytdfdmeoalbpcdaa", sum := "8d5bf774a11b8f90a80f536118b63319e20b116fc8bf96db93c8223de9152af6", func := "ninepin/ninepinlaw15.SimplexTurned", spec := "simplexTurned", inPlace := ["math/bits.Add64"], unfollowed := true, recurses := true, apart := false }
def SimplexTurnedSaid : Prop := simplexTurnedRow.holds Try.pinned (OpenSpec.ofChange simplexTurnedSpec)

/-- ITS FALSE NEIGHBOUR: 'it returns false'. Refute it at one input. -/
def simplexTurnedWrong : ChangeSpec := { name := "simplexTurned", fn := fun _ => fun
  | [d1, d2] => { results := [.lit (.bool false)], args := [d1, d2] }
  | _ => none }
def SimplexTurnedWrongFalsely : Prop := simplexTurnedRow.holds Try.pinned (OpenSpec.ofChange simplexTurnedWrong)

/-- 'ninepinlaw15.SimplexMore': WHATEVER THE INPUT: true; the input reads as it did. -/
def simplexMoreSpec : ChangeSpec := { name := "simplexMore", fn := fun _ => fun
  | [d1, d2] => { results := [.lit (.bool true)], args := [d1, d2] }
  | _ => none }
def simplexMoreRow : OpenClaim := { program := "ytdfdmeoalbpcdaa", sum := "8d5bf774a11b8f90a80f536118b63319e20b116fc8bf96db93c8223de9152af6", func := "ninepin/ninepinlaw15.SimplexMore", spec := "simplexMore", inPlace := ["math/bits.Add64"], unfollowed := true, recurses := true, apart := false }
def SimplexMoreSaid : Prop := simplexMoreRow.holds Try.pinned (OpenSpec.ofChange simplexMoreSpec)

/-- ITS FALSE NEIGHBOUR: 'it returns false'. Refute it at one input. -/
def simplexMoreWrong : ChangeSpec := { name := "simplexMore", fn := fun _ => fun
  | [d1, d2] => { results := [.lit (.bool false)], args := [d1, d2] }
  | _ => none }
def SimplexMoreWrongFalsely : Prop := simplexMoreRow.holds Try.pinned (OpenSpec.ofChange simplexMoreWrong)

/-- 'ninepinlaw15.SimplexDouble': WHATEVER THE INPUT: true; the input reads as it did. -/
def simplexDoubleSpec : ChangeSpec := { name := "simplexDouble", fn := fun _ => fun
  | [d] => { results := [.lit (.bool true)], args := [d] }
  | _ => none }
def simplexDoubleRow : OpenClaim := { program := "ytdfdmeoalbpcdaa", sum := "8d5bf774a11b8f90a80f536118b63319e20b116fc8bf96db93c8223de9152af6", func := "ninepin/ninepinlaw15.SimplexDouble", spec := "simplexDouble", inPlace := ["math/bits.Add64"], unfollowed := true, recurses := true, apart := false }
def SimplexDoubleSaid : Prop := simplexDoubleRow.holds Try.pinned (OpenSpec.ofChange simplexDoubleSpec)

/-- ITS FALSE NEIGHBOUR: 'it returns false'. Refute it at one input. -/
def simplexDoubleWrong : ChangeSpec := { name := "simplexDouble", fn := fun _ => fun
  | [d] => { results := [.lit (.bool false)], args := [d] }
  | _ => none }
def SimplexDoubleWrongFalsely : Prop := simplexDoubleRow.holds Try.pinned (OpenSpec.ofChange simplexDoubleWrong)

/-- 'ninepinlaw15.SimplexBest': WHATEVER THE INPUT: true; the input reads as it did. -/
def simplexBestSpec : ChangeSpec := { name := "simplexBest", fn := fun _ => fun
  | [d] => { results := [.lit (.bool true)], args := [d] }
  | _ => none }
def simplexBestRow : OpenClaim := { program := "ytdfdmeoalbpcdaa", sum := "8d5bf774a11b8f90a80f536118b63319e20b116fc8bf96db93c8223de9152af6", func := "ninepin/ninepinlaw15.SimplexBest", spec := "simplexBest", inPlace := ["math/bits.Add64"], unfollowed := true, recurses := true, apart := false }
def SimplexBestSaid : Prop := simplexBestRow.holds Try.pinned (OpenSpec.ofChange simplexBestSpec)

/-- ITS FALSE NEIGHBOUR: 'it returns false'. Refute it at one input. -/
def simplexBestWrong : ChangeSpec := { name := "simplexBest", fn := fun _ => fun
  | [d] => { results := [.lit (.bool false)], args := [d] }
  | _ => none }
def SimplexBestWrongFalsely : Prop := simplexBestRow.holds Try.pinned (OpenSpec.ofChange simplexBestWrong)

/- THE SECOND FORM. 'bulk': how many values and letters a reading holds, each counted each time it is reached (what is shared counts as often as it is met; a slice's spare places count too). A statement '..UptoSaid' is the law's where the arguments, and the package variables that the reading takes, are together of bulk at most 1048576: NARROWER than '..Said'. Prove '..Said' where nothing that the law and all that it calls make is longer than what came in: it says more and counts as full. Else prove '..UptoSaid'. A law counts once. -/
mutual
def uptoBulk {H : Type} : DataW H → Nat
  | .lit (.string bytes) => bytes.length + 1
  | .lit _ => 1
  | .nil => 1
  | .ptr d => uptoBulk d + 1
  | .slice elems spare => uptoBulkAll elems + uptoBulkAll spare + 1
  | .agg parts => uptoBulkAll parts + 1
  | .iface _ d => uptoBulk d + 1
  | .map entries => uptoBulkEntries entries + 1
  | .held _ => 1
def uptoBulkAll {H : Type} : List (DataW H) → Nat
  | [] => 0
  | d :: r => uptoBulk d + uptoBulkAll r
def uptoBulkEntries {H : Type} : List (Lit × DataW H) → Nat
  | [] => 0
  | x :: r => uptoBulkEntry x + uptoBulkEntries r
def uptoBulkEntry {H : Type} : Lit × DataW H → Nat
  | (.string bytes, d) => bytes.length + uptoBulk d + 1
  | (_, d) => uptoBulk d + 1
 end
def uptoSmall : (H : Type) → List (DataW H) → Bool := fun _ ds => decide (uptoBulkAll ds ≤ 1048576)
def OpenSpec.upto (s : _root_.Go.ChangeSpec) : _root_.Go.OpenSpec := { _root_.Go.OpenSpec.ofChange s with cond := some uptoSmall }

/-- 'ninepinlaw15.SimplexPast', WHERE WHAT IT READS IS OF BULK AT MOST 1048576: true; the input reads as it did. -/
def simplexPastUptoRow : OpenClaim := { program := "ytdfdmeoalbpcdaa", sum := "8d5bf774a11b8f90a80f536118b63319e20b116fc8bf96db93c8223de9152af6", func := "ninepin/ninepinlaw15.SimplexPast", spec := "simplexPast", inPlace := ["math/bits.Add64"], unfollowed := true, recurses := true, apart := false, narrowed := true }
def SimplexPastUptoSaid : Prop := simplexPastUptoRow.holds Try.pinned (OpenSpec.upto simplexPastSpec)

/-- 'ninepinlaw15.SimplexTurned', WHERE WHAT IT READS IS OF BULK AT MOST 1048576: true; the input reads as it did. -/
def simplexTurnedUptoRow : OpenClaim := { program := "ytdfdmeoalbpcdaa", sum := "8d5bf774a11b8f90a80f536118b63319e20b116fc8bf96db93c8223de9152af6", func := "ninepin/ninepinlaw15.SimplexTurned", spec := "simplexTurned", inPlace := ["math/bits.Add64"], unfollowed := true, recurses := true, apart := false, narrowed := true }
def SimplexTurnedUptoSaid : Prop := simplexTurnedUptoRow.holds Try.pinned (OpenSpec.upto simplexTurnedSpec)

/-- 'ninepinlaw15.SimplexMore', WHERE WHAT IT READS IS OF BULK AT MOST 1048576: true; the input reads as it did. -/
def simplexMoreUptoRow : OpenClaim := { program := "ytdfdmeoalbpcdaa", sum := "8d5bf774a11b8f90a80f536118b63319e20b116fc8bf96db93c8223de9152af6", func := "ninepin/ninepinlaw15.SimplexMore", spec := "simplexMore", inPlace := ["math/bits.Add64"], unfollowed := true, recurses := true, apart := false, narrowed := true }
def SimplexMoreUptoSaid : Prop := simplexMoreUptoRow.holds Try.pinned (OpenSpec.upto simplexMoreSpec)

/-- 'ninepinlaw15.SimplexDouble', WHERE WHAT IT READS IS OF BULK AT MOST 1048576: true; the input reads as it did. -/
def simplexDoubleUptoRow : OpenClaim := { program := "ytdfdmeoalbpcdaa", sum := "8d5bf774a11b8f90a80f536118b63319e20b116fc8bf96db93c8223de9152af6", func := "ninepin/ninepinlaw15.SimplexDouble", spec := "simplexDouble", inPlace := ["math/bits.Add64"], unfollowed := true, recurses := true, apart := false, narrowed := true }
def SimplexDoubleUptoSaid : Prop := simplexDoubleUptoRow.holds Try.pinned (OpenSpec.upto simplexDoubleSpec)

/-- 'ninepinlaw15.SimplexBest', WHERE WHAT IT READS IS OF BULK AT MOST 1048576: true; the input reads as it did. -/
def simplexBestUptoRow : OpenClaim := { program := "ytdfdmeoalbpcdaa", sum := "8d5bf774a11b8f90a80f536118b63319e20b116fc8bf96db93c8223de9152af6", func := "ninepin/ninepinlaw15.SimplexBest", spec := "simplexBest", inPlace := ["math/bits.Add64"], unfollowed := true, recurses := true, apart := false, narrowed := true }
def SimplexBestUptoSaid : Prop := simplexBestUptoRow.holds Try.pinned (OpenSpec.upto simplexBestSpec)

end Rows
end Go.Proofs.Ytdfdmeoalbpcdaa
