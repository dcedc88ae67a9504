/-
  '==' on arrays of eight limbs.
  '==' on points, numbers, spans.
-/
import Derived.Test.YtbdkbmhejoakiaaDoorTypes
import Derived.Laws.StructEq
set_option maxRecDepth 100000
namespace Go.Proofs.YtbdkbmhejoakiaaDoor
open Go Go.RowKit

theorem run_equalIn_arr {P : Program} (w : World) (d n : Nat) (t e : TypeId) (ht : P.underlying t = some (.array n e)) (he : P.underlying e = some (.int .u64)) (h1 : OneTy P e) (X Y : Nat → Int) (xs ys : Array Value)
    (hx : ∀ i, i < n → xs[i]? = some (.int .u64 (X i))) (hy : ∀ i, i < n → ys[i]? = some (.int .u64 (Y i))) :
    (Op.equalIn (d + 2) t (.agg xs) (.agg ys)).run P w = .ok ((List.range' 0 n 1).all fun i => X i == Y i) w := by
  have hpart : ∀ (cs : Array Value) (i : Nat) (v : Value), cs[i]? = some v → (part e cs i).run P w = .ok v w := by
    intro cs i v hv
    simp [part, h1.agg, hv]
  have heq : ∀ a b : Int, (Op.equalIn (d + 1) e (.int .u64 a) (.int .u64 b)).run P w = .ok (a == b) w := fun a b => by
    simp [Op.equalIn, run_underlying he]
  rw [show d + 2 = (d + 1) + 1 from rfl, Op.equalIn]
  simp only [Sem.run_bind, run_underlying ht, Result.andThen_ok, h1.size]
  simp only [Std.Legacy.Range.forIn_eq_forIn_range', Std.Legacy.Range.size, Nat.mul_one, Nat.sub_zero, Nat.add_sub_cancel, Nat.div_one]
  have hl : ∀ i ∈ List.range' 0 n 1, i < n := by intro i hi; simp at hi; omega
  revert hl
  generalize List.range' 0 n 1 = l
  intro hl
  induction l with
  | nil => simp
  | cons i l ih =>
    have ih' := ih fun j hj => hl j (by simp [hj])
    have hi := hl i (by simp)
    simp only [List.forIn_cons, Sem.run_bind, hpart xs i _ (hx i hi), hpart ys i _ (hy i hi), heq, Result.andThen_ok, List.all_cons]
    cases h : X i == Y i
    · simp
    · simp only [Bool.not_true, Bool.false_eq_true, if_false, Sem.run_pure, Result.andThen_ok, Bool.true_and]
      exact ih'
theorem run_equalIn_arr8 {P : Program} (w : World) (d : Nat) (t e : TypeId) (ht : P.underlying t = some (.array 8 e)) (he : P.underlying e = some (.int .u64)) (h1 : OneTy P e) (X Y : Nat → Int) :
    (Op.equalIn (d + 2) t (.agg #[.int .u64 (X 0), .int .u64 (X 1), .int .u64 (X 2), .int .u64 (X 3), .int .u64 (X 4), .int .u64 (X 5), .int .u64 (X 6), .int .u64 (X 7)]) (.agg #[.int .u64 (Y 0), .int .u64 (Y 1), .int .u64 (Y 2), .int .u64 (Y 3), .int .u64 (Y 4), .int .u64 (Y 5), .int .u64 (Y 6), .int .u64 (Y 7)])).run P w =
      .ok (X 0 == Y 0 && (X 1 == Y 1 && (X 2 == Y 2 && (X 3 == Y 3 && (X 4 == Y 4 && (X 5 == Y 5 && (X 6 == Y 6 && X 7 == Y 7))))))) w := by
  have h := run_equalIn_arr w d 8 t e ht he h1 X Y (xs := #[.int .u64 (X 0), .int .u64 (X 1), .int .u64 (X 2), .int .u64 (X 3), .int .u64 (X 4), .int .u64 (X 5), .int .u64 (X 6), .int .u64 (X 7)]) (ys := #[.int .u64 (Y 0), .int .u64 (Y 1), .int .u64 (Y 2), .int .u64 (Y 3), .int .u64 (Y 4), .int .u64 (Y 5), .int .u64 (Y 6), .int .u64 (Y 7)])
    (by intro i hi; match i, hi with | 0, _ | 1, _ | 2, _ | 3, _ | 4, _ | 5, _ | 6, _ | 7, _ => rfl) (by intro i hi; match i, hi with | 0, _ | 1, _ | 2, _ | 3, _ | 4, _ | 5, _ | 6, _ | 7, _ => rfl)
  rw [h]
  simp [List.range'_succ]
/-- The values of eight numbers. -/
def vec8 (x0 x1 x2 x3 x4 x5 x6 x7 : Int) : Nat → Int
  | 0 => x0 | 1 => x1 | 2 => x2 | 3 => x3 | 4 => x4 | 5 => x5 | 6 => x6 | _ => x7
@[go_sem] theorem eq_arr (w : World) (d : Nat) (x0 x1 x2 x3 x4 x5 x6 x7 y0 y1 y2 y3 y4 y5 y6 y7 : Int) :
    (Op.equalIn (d + 2) 36 (.agg #[.int .u64 x0, .int .u64 x1, .int .u64 x2, .int .u64 x3, .int .u64 x4, .int .u64 x5, .int .u64 x6, .int .u64 x7]) (.agg #[.int .u64 y0, .int .u64 y1, .int .u64 y2, .int .u64 y3, .int .u64 y4, .int .u64 y5, .int .u64 y6, .int .u64 y7])).run Tryd.prog w =
      .ok (x0 == y0 && (x1 == y1 && (x2 == y2 && (x3 == y3 && (x4 == y4 && (x5 == y5 && (x6 == y6 && x7 == y7))))))) w :=
  run_equalIn_arr8 w d _ _ Tryd.underlying36 Tryd.underlying35 inferInstance (vec8 x0 x1 x2 x3 x4 x5 x6 x7) (vec8 y0 y1 y2 y3 y4 y5 y6 y7)
@[go_sem] theorem eq_limbs (w : World) (d : Nat) (x0 x1 x2 x3 x4 x5 x6 x7 y0 y1 y2 y3 y4 y5 y6 y7 : Int) :
    (Op.equalIn (d + 2) 67 (.agg #[.int .u64 x0, .int .u64 x1, .int .u64 x2, .int .u64 x3, .int .u64 x4, .int .u64 x5, .int .u64 x6, .int .u64 x7]) (.agg #[.int .u64 y0, .int .u64 y1, .int .u64 y2, .int .u64 y3, .int .u64 y4, .int .u64 y5, .int .u64 y6, .int .u64 y7])).run Tryd.prog w =
      .ok (x0 == y0 && (x1 == y1 && (x2 == y2 && (x3 == y3 && (x4 == y4 && (x5 == y5 && (x6 == y6 && x7 == y7))))))) w :=
  run_equalIn_arr8 w d _ _ Tryd.underlying67 Tryd.underlying35 inferInstance (vec8 x0 x1 x2 x3 x4 x5 x6 x7) (vec8 y0 y1 y2 y3 y4 y5 y6 y7)
end Go.Proofs.YtbdkbmhejoakiaaDoor
set_option maxRecDepth 100000
namespace Go.Proofs.YtbdkbmhejoakiaaDoor
open Go Go.RowKit

@[go_sem high] theorem eq_wide (w : World) (d : Nat) (x0 x1 x2 x3 x4 x5 x6 x7 y0 y1 y2 y3 y4 y5 y6 y7 : Int) : (Op.equalIn (d + 3) 38 (.agg #[.int .u64 x0, .int .u64 x1, .int .u64 x2, .int .u64 x3, .int .u64 x4, .int .u64 x5, .int .u64 x6, .int .u64 x7]) (.agg #[.int .u64 y0, .int .u64 y1, .int .u64 y2, .int .u64 y3, .int .u64 y4, .int .u64 y5, .int .u64 y6, .int .u64 y7])).run Tryd.prog w = .ok (x0 == y0 && (x1 == y1 && (x2 == y2 && (x3 == y3 && (x4 == y4 && (x5 == y5 && (x6 == y6 && x7 == y7))))))) w := by
  go_simp
  generalize (x0 == y0 && (x1 == y1 && (x2 == y2 && (x3 == y3 && (x4 == y4 && (x5 == y5 && (x6 == y6 && x7 == y7))))))) = b
  cases b <;> simp
end Go.Proofs.YtbdkbmhejoakiaaDoor
