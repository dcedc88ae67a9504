/-
  The arguments of a law: points.
-/
import Derived.Test.YthnpmmpcejfllaaGx
import Derived.WalkKit
import Derived.ProofKit
import Derived.OpenShut
import Derived.ShutString
import Derived.ChangeOld
import Derived.Below
import Derived.Lib.SmallJoins
import Derived.Deep.Slices
set_option linter.unusedVariables false
set_option maxRecDepth 100000
namespace Go.Proofs.Ythnpmmpcejfllaa
open Go Go.ChangeShapes Go.WideShapes Go.ChangeAt Go.RowKit Go.Joins

theorem own : ownKnob Try.prog.godebug = none := by kernel_rfl
theorem laidOut : laidOutB Try.prog = true := by kernel_rfl
theorem i64_wf {n : Int} (h : (Lit.int .i64 n).wf = true) : I64 n := by
  unfold I64
  simp [Lit.wf, IntKind.min, IntKind.max, IntKind.bits, IntKind.signed] at h
  omega
theorem cellsPoint : Try.prog.cellsOf 33 = 3 := by kernel_rfl
/-- A point that came in. -/
theorem open_point {H : Type} {enc : TypeId × Value → H} {W : World} {r : Reach} {b0 base : Nat} {spare : Nat → Bool} {held : Bool} {v : Value} {d : DataW H} {p : List MemPlace}
    (hv : Value.okWide Try.prog W r b0 33 v) (h : DataW.Trod enc Try.prog W base spare held 33 v d p) : ∃ q : P3, v = PV q ∧ q.i64 := by
  obtain ⟨c0, c1, c2, y0, y1, y2, m, rfl, rfl, rfl, h0, h1, h2⟩ := open_agg3 Try.underlying33 (by kernel_rfl) cellsPoint hv h
  obtain ⟨x, e0, _, w0⟩ := DataW.trod_int Try.underlying2 h0
  obtain ⟨y, e1, _, w1⟩ := DataW.trod_int Try.underlying2 h1
  obtain ⟨z, e2, _, w2⟩ := DataW.trod_int Try.underlying2 h2
  simp at e0 e1 e2
  subst e0 e1 e2
  exact ⟨⟨x, y, z⟩, rfl, i64_wf w0, i64_wf w1, i64_wf w2⟩
end Go.Proofs.Ythnpmmpcejfllaa
