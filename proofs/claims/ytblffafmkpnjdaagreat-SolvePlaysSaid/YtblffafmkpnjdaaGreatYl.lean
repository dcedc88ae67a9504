/-
  Package rows: Make (contract).
-/
import Derived.Test.YtblffafmkpnjdaaGreatYe
import Derived.Test.YtblffafmkpnjdaaGreatEr
import Derived.Test.YtblffafmkpnjdaaGreatLq
set_option linter.unusedSimpArgs false
set_option linter.unusedVariables false
set_option maxRecDepth 100000
namespace Go.Proofs.YtblffafmkpnjdaaGreat
open Go Go.RowKit
attribute [local irreducible] wpList
/-- A row. -/
structure Rw where
  a : Int
  b : Int
  n : P3
  t : P3
  u : P3
  ra : P3
  rb : P3
  mn : Int
  mt : Int
  mu : Int
  aim : Int
  rub : Int
  pn : Int
  pt : Int
  pu : Int
abbrev RoV (r : Rw) : Value := .agg #[.int .i64 r.a,.int .i64 r.b,.int .i64 r.n.x,.int .i64 r.n.y,.int .i64 r.n.z,.int .i64 r.t.x,.int .i64 r.t.y,.int .i64 r.t.z,.int .i64 r.u.x,.int .i64 r.u.y,.int .i64 r.u.z,.int .i64 r.ra.x,.int .i64 r.ra.y,.int .i64 r.ra.z,.int .i64 r.rb.x,.int .i64 r.rb.y,.int .i64 r.rb.z,.int .i64 r.mn,.int .i64 r.mt,.int .i64 r.mu,.int .i64 r.aim,.int .i64 r.rub,.int .i64 r.pn,.int .i64 r.pt,.int .i64 r.pu]
def Rw.i64 (r : Rw) : Prop := r.n.i64 ∧ r.ra.i64 ∧ r.rb.i64
def P3.zero : P3 := ⟨0,0,0⟩
def Rw.zero : Rw := ⟨0,0,.zero,.zero,.zero,.zero,.zero,0,0,0,0,0,0,0,0⟩
set_option maxHeartbeats 2000000 in
@[go_sem high] theorem eq_row (w : World) (d : Nat) (x0 x1 x2 x3 x4 x5 x6 x7 x8 x9 x10 x11 x12 x13 x14 x15 x16 x17 x18 x19 x20 x21 x22 x23 x24 : Int) : (Op.equalIn (d + 3) 63 (.agg #[.int .i64 x0,.int .i64 x1,.int .i64 x2,.int .i64 x3,.int .i64 x4,.int .i64 x5,.int .i64 x6,.int .i64 x7,.int .i64 x8,.int .i64 x9,.int .i64 x10,.int .i64 x11,.int .i64 x12,.int .i64 x13,.int .i64 x14,.int .i64 x15,.int .i64 x16,.int .i64 x17,.int .i64 x18,.int .i64 x19,.int .i64 x20,.int .i64 x21,.int .i64 x22,.int .i64 x23,.int .i64 x24]) (.agg #[.int .i64 x0,.int .i64 x1,.int .i64 x2,.int .i64 x3,.int .i64 x4,.int .i64 x5,.int .i64 x6,.int .i64 x7,.int .i64 x8,.int .i64 x9,.int .i64 x10,.int .i64 x11,.int .i64 x12,.int .i64 x13,.int .i64 x14,.int .i64 x15,.int .i64 x16,.int .i64 x17,.int .i64 x18,.int .i64 x19,.int .i64 x20,.int .i64 x21,.int .i64 x22,.int .i64 x23,.int .i64 x24])).run Tryz.prog w = .ok true w := by
  go_simp
  try simp
section
open Go.ChangeShapes Go.WideShapes Go.ChangeAt Go.Joins
theorem flat_row {H : Type} {enc : TypeId × Value → H} {W : World} {base : Nat} {spare : Nat → Bool} {held : Bool} : Flat enc W base spare held 63 := by
  refine Qfo enc W base spare held Tryz.underlying63 (cover (by kernel_rfl)) fun f hf => ?_
  simp only [List.mem_toArray,List.mem_cons,List.not_mem_nil,or_false] at hf
  rcases hf with rfl | rfl | rfl | rfl | rfl | rfl | rfl | rfl | rfl | rfl | rfl | rfl | rfl | rfl | rfl
  · exact flat_idx
  · exact flat_idx
  all_goals first | exact Qiw | exact Qmj
end
end Go.Proofs.YtblffafmkpnjdaaGreat
