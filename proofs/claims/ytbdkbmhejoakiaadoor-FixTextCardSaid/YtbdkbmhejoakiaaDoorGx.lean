/-
  Integers, points, spans: what is said of them everywhere; wide.Of.
-/
import Derived.Test.YtbdkbmhejoakiaaDoorMd
import Derived.Test.YtbdkbmhejoakiaaDoorIn
set_option linter.unusedSimpArgs false
set_option maxRecDepth 100000
namespace Go.Proofs.YtbdkbmhejoakiaaDoor
open Go Go.RowKit

/-- A point, a span. -/
abbrev Pv (x y z : Int) : Value := .agg #[.int .i64 x, .int .i64 y, .int .i64 z]
abbrev Sv (x y z : Int) : Value := .agg #[.int .u64 (lb (x) 0), .int .u64 (lb (x) 1), .int .u64 (lb (x) 2), .int .u64 (lb (x) 3), .int .u64 (lb (x) 4), .int .u64 (lb (x) 5), .int .u64 (lb (x) 6), .int .u64 (lb (x) 7), .int .u64 (lb (y) 0), .int .u64 (lb (y) 1), .int .u64 (lb (y) 2), .int .u64 (lb (y) 3), .int .u64 (lb (y) 4), .int .u64 (lb (y) 5), .int .u64 (lb (y) 6), .int .u64 (lb (y) 7), .int .u64 (lb (z) 0), .int .u64 (lb (z) 1), .int .u64 (lb (z) 2), .int .u64 (lb (z) 3), .int .u64 (lb (z) 4), .int .u64 (lb (z) 5), .int .u64 (lb (z) 6), .int .u64 (lb (z) 7)]
def I64 (n : Int) : Prop := -9223372036854775808 ≤ n ∧ n < 9223372036854775808

theorem of_i64 (n : Int) (h : I64 n) (w : World) : Calls Tryd.prog 24 #[.int .i64 n] w (Ret (W n) w) := of_any n h.1 h.2 w
theorem fit_i64 {n : Int} (h : I64 n) : Fit n := by
  unfold I64 at h
  unfold Fit M511
  omega
/-- Three integers. -/
structure P3 where
  x : Int
  y : Int
  z : Int
deriving DecidableEq
abbrev PV (p : P3) : Value := .agg #[.int .i64 p.x, .int .i64 p.y, .int .i64 p.z]
abbrev SV (p : P3) : Value := .agg #[.int .u64 (lb (p.x) 0), .int .u64 (lb (p.x) 1), .int .u64 (lb (p.x) 2), .int .u64 (lb (p.x) 3), .int .u64 (lb (p.x) 4), .int .u64 (lb (p.x) 5), .int .u64 (lb (p.x) 6), .int .u64 (lb (p.x) 7), .int .u64 (lb (p.y) 0), .int .u64 (lb (p.y) 1), .int .u64 (lb (p.y) 2), .int .u64 (lb (p.y) 3), .int .u64 (lb (p.y) 4), .int .u64 (lb (p.y) 5), .int .u64 (lb (p.y) 6), .int .u64 (lb (p.y) 7), .int .u64 (lb (p.z) 0), .int .u64 (lb (p.z) 1), .int .u64 (lb (p.z) 2), .int .u64 (lb (p.z) 3), .int .u64 (lb (p.z) 4), .int .u64 (lb (p.z) 5), .int .u64 (lb (p.z) 6), .int .u64 (lb (p.z) 7)]
def may (n : Int) : Prop := -268435456 ≤ n ∧ n ≤ 268435456
instance (n : Int) : Decidable (may n) := inferInstanceAs (Decidable (_ ∧ _))
def P3.may (p : P3) : Prop := YtbdkbmhejoakiaaDoor.may p.x ∧ YtbdkbmhejoakiaaDoor.may p.y ∧ YtbdkbmhejoakiaaDoor.may p.z
instance (p : P3) : Decidable p.may := inferInstanceAs (Decidable (_ ∧ _))
def P3.i64 (p : P3) : Prop := I64 p.x ∧ I64 p.y ∧ I64 p.z
def P3.sub (a b : P3) : P3 := ⟨a.x - b.x, a.y - b.y, a.z - b.z⟩
def P3.dot (a b : P3) : Int := a.x * b.x + a.y * b.y + a.z * b.z
def P3.cross (a b : P3) : P3 := ⟨a.y * b.z - a.z * b.y, a.z * b.x - a.x * b.z, a.x * b.y - a.y * b.x⟩
def P3.det (a b c : P3) : Int := (b.cross c).dot a

theorem bd_mul {a b : Int} {A B : Nat} (ha : -(A : Int) ≤ a ∧ a ≤ A) (hb : -(B : Int) ≤ b ∧ b ≤ B) : -((A * B : Nat) : Int) ≤ a * b ∧ a * b ≤ ((A * B : Nat) : Int) := by
  have h1 : (a * b).natAbs ≤ A * B := by
    rw [Int.natAbs_mul]
    exact Nat.mul_le_mul (by omega) (by omega)
  generalize A * B = C at *
  omega
theorem i64_bd {a : Int} (h : I64 a) : -((9223372036854775808 : Nat) : Int) ≤ a ∧ a ≤ ((9223372036854775808 : Nat) : Int) := by
  unfold I64 at h
  omega
theorem i64_mul {a b : Int} (ha : I64 a) (hb : I64 b) : -85070591730234615865843651857942052864 ≤ a * b ∧ a * b ≤ 85070591730234615865843651857942052864 := by
  have := bd_mul (i64_bd ha) (i64_bd hb)
  omega
theorem i64_det {a b : Int} (ha : -170141183460469231731687303715884105728 ≤ a ∧ a ≤ 170141183460469231731687303715884105728) (hb : I64 b) : -1569275433846670190958947355801916604025588861116008628224 ≤ a * b ∧ a * b ≤ 1569275433846670190958947355801916604025588861116008628224 := by
  have := bd_mul (A := 170141183460469231731687303715884105728) ha (i64_bd hb)
  omega
end Go.Proofs.YtbdkbmhejoakiaaDoor
