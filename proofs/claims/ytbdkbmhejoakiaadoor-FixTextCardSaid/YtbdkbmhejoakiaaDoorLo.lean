/-
  The arguments of a law: vectors, numbers.
-/
import Derived.Test.YtbdkbmhejoakiaaDoorLc
set_option linter.unusedVariables false
set_option maxRecDepth 100000
namespace Go.Proofs.YtbdkbmhejoakiaaDoor
open Go Go.ChangeShapes Go.WideShapes Go.ChangeAt Go.RowKit Go.Joins

/-- An integer that came in. -/
theorem open_any_int {t : TypeId} {H : Type} {enc : TypeId × Value → H} {W : World} {r : Reach} {b0 base : Nat} {spare : Nat → Bool} {held : Bool} {v : Value} {d : DataW H} {p : List MemPlace} (ht : Tryd.prog.underlying t = some (.int .i64))
    (hv : Value.okWide Tryd.prog W r b0 t v) (h : DataW.Trod enc Tryd.prog W base spare held t v d p) : ∃ n : Int, v = .int .i64 n ∧ I64 n := by
  obtain ⟨n, rfl, _, _, hw⟩ := open_int ht hv h
  exact ⟨n, rfl, i64_wf hw⟩
section
variable {H : Type} {enc : TypeId × Value → H} {W : World} {r : Reach} {b0 base : Nat} {spare : Nat → Bool} {held : Bool} {v : Value} {d : DataW H} {p : List MemPlace}
theorem open_i64 (hv : Value.okWide Tryd.prog W r b0 2 v) (h : DataW.Trod enc Tryd.prog W base spare held 2 v d p) : ∃ n : Int, v = .int .i64 n ∧ I64 n := open_any_int Tryd.underlying2 hv h
theorem open_fix (hv : Value.okWide Tryd.prog W r b0 22 v) (h : DataW.Trod enc Tryd.prog W base spare held 22 v d p) : ∃ n : Int, v = .int .i64 n ∧ I64 n := open_any_int Tryd.underlying22 hv h
theorem open_idx (hv : Value.okWide Tryd.prog W r b0 3 v) (h : DataW.Trod enc Tryd.prog W base spare held 3 v d p) : ∃ n : Int, v = .int .i64 n ∧ I64 n := open_any_int Tryd.underlying3 hv h
end
end Go.Proofs.YtbdkbmhejoakiaaDoor
