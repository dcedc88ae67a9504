/-
  The arguments of a law: vectors, numbers.
-/
import Derived.Test.YtblffafmkpnjdaaLc
set_option linter.unusedVariables false
set_option maxRecDepth 100000
namespace Go.Proofs.Ytblffafmkpnjdaa
open Go Go.ChangeShapes Go.WideShapes Go.ChangeAt Go.RowKit Go.Joins

/-- An integer that came in. -/
theorem open_any_int {t : TypeId} {H : Type} {enc : TypeId × Value → H} {W : World} {r : Reach} {b0 base : Nat} {spare : Nat → Bool} {held : Bool} {v : Value} {d : DataW H} {p : List MemPlace} (ht : Try.prog.underlying t = some (.int .i64))
    (hv : Value.okWide Try.prog W r b0 t v) (h : DataW.Trod enc Try.prog W base spare held t v d p) : ∃ n : Int, v = .int .i64 n ∧ I64 n := by
  obtain ⟨n, rfl, _, _, hw⟩ := open_int ht hv h
  exact ⟨n, rfl, i64_wf hw⟩
section
variable {H : Type} {enc : TypeId × Value → H} {W : World} {r : Reach} {b0 base : Nat} {spare : Nat → Bool} {held : Bool} {v : Value} {d : DataW H} {p : List MemPlace}
theorem open_i64 (hv : Value.okWide Try.prog W r b0 2 v) (h : DataW.Trod enc Try.prog W base spare held 2 v d p) : ∃ n : Int, v = .int .i64 n ∧ I64 n := open_any_int Try.underlying2 hv h
theorem open_fix (hv : Value.okWide Try.prog W r b0 29 v) (h : DataW.Trod enc Try.prog W base spare held 29 v d p) : ∃ n : Int, v = .int .i64 n ∧ I64 n := open_any_int Try.underlying29 hv h
theorem open_idx (hv : Value.okWide Try.prog W r b0 3 v) (h : DataW.Trod enc Try.prog W base spare held 3 v d p) : ∃ n : Int, v = .int .i64 n ∧ I64 n := open_any_int Try.underlying3 hv h
end
theorem cellsVec : Try.prog.cellsOf 31 = 3 := by kernel_rfl
/-- A vector that came in. -/
theorem open_vec {H : Type} {enc : TypeId × Value → H} {W : World} {r : Reach} {b0 base : Nat} {spare : Nat → Bool} {held : Bool} {v : Value} {d : DataW H} {p : List MemPlace}
    (hv : Value.okWide Try.prog W r b0 31 v) (h : DataW.Trod enc Try.prog W base spare held 31 v d p) : ∃ q : P3, v = PV q ∧ q.i64 := by
  obtain ⟨c0, c1, c2, y0, y1, y2, m, rfl, rfl, rfl, h0, h1, h2⟩ := open_agg3 Try.underlying31 (by kernel_rfl) cellsVec hv h
  obtain ⟨x, e0, _, w0⟩ := DataW.trod_int Try.underlying29 h0
  obtain ⟨y, e1, _, w1⟩ := DataW.trod_int Try.underlying29 h1
  obtain ⟨z, e2, _, w2⟩ := DataW.trod_int Try.underlying29 h2
  simp at e0 e1 e2
  subst e0 e1 e2
  exact ⟨⟨x, y, z⟩, rfl, i64_wf w0, i64_wf w1, i64_wf w2⟩
end Go.Proofs.Ytblffafmkpnjdaa
