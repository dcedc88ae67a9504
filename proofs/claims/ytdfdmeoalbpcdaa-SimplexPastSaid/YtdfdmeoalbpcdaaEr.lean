/-
  A product by limbs, as plain numbers.
  '==' on arrays of eight limbs.
  '==' on points, numbers, spans.
-/
import Derived.Test.YtdfdmeoalbpcdaaNum
import Derived.Test.YtdfdmeoalbpcdaaTypes
import Derived.Laws.StructEq
namespace Go.Proofs.Ytdfdmeoalbpcdaa
open Go
/-- 2^(64 k). -/
def P64 (k : Nat) : Int := 2 ^ (64 * k)
theorem Qdf (k : Nat) : 0 < P64 k := Qaj _
theorem Qgp (k : Nat) : P64 (k + 1) = P64 k * 18446744073709551616 := Qda k
theorem Qhc (i k : Nat) : P64 (i + k) = P64 i * P64 k := by unfold P64;rw [Nat.mul_add,Int.pow_add]
theorem Qph : P64 0 = 1 := rfl
theorem Qgc : P64 8 = M512 := M512_eq.symm
theorem lb_P64 (n : Int) (i : Nat) : lb n i = n / P64 i % 18446744073709551616 := rfl
theorem Qei (n : Int) (k : Nat) : n % P64 (k + 1) = P64 k * lb n k + n % P64 k := Qjy n k
theorem mod_bd (n : Int) (k : Nat) : 0 ≤ n % P64 k ∧ n % P64 k < P64 k := ⟨Int.emod_nonneg _ (by have := Qdf k;omega),Int.emod_lt_of_pos _ (Qdf k)⟩
theorem P64_le {i j : Nat} (h : i ≤ j) : P64 i ≤ P64 j := by
  obtain ⟨d,rfl⟩ : ∃ d,j = i + d := ⟨j - i,by omega⟩
  rw [Qhc]
  have h1 := Qdf i
  have h2 := Qdf d
  have := Int.mul_le_mul_of_nonneg_left (show (1 : Int) ≤ P64 d by omega) (show (0 : Int) ≤ P64 i by omega)
  omega
/-- n with limb j written anew. -/
def put (n : Int) (j : Nat) (v : Int) : Int := n + (v - lb n j) * P64 j
theorem div_P64 (n : Int) (j : Nat) : n = P64 (j + 1) * (n / P64 (j + 1)) + (P64 j * lb n j + n % P64 j) := by
  rw [← Qei];exact (Int.mul_ediv_add_emod _ _).symm
theorem put_eq (n : Int) (j : Nat) (v : Int) : put n j v = P64 (j + 1) * (n / P64 (j + 1)) + (P64 j * v + n % P64 j) := by
  have h := div_P64 n j
  unfold put
  rw [Int.sub_mul,Int.mul_comm v,Int.mul_comm (lb n j)]
  omega
theorem Qnl (n : Int) (j : Nat) (v : Int) (h0 : 0 ≤ v) (h1 : v < 18446744073709551616) : 0 ≤ P64 j * v + n % P64 j ∧ P64 j * v + n % P64 j < P64 (j + 1) := by
  have hb := mod_bd n j
  have hp := Qdf j
  have h2 := Int.mul_le_mul_of_nonneg_left (show v + 1 ≤ 18446744073709551616 by omega) (show (0 : Int) ≤ P64 j by omega)
  have h3 := Int.mul_nonneg (show (0 : Int) ≤ P64 j by omega) h0
  rw [Qgp]
  rw [Int.mul_add] at h2
  omega
theorem put_div (n : Int) (j : Nat) (v : Int) (h0 : 0 ≤ v) (h1 : v < 18446744073709551616) : put n j v / P64 (j + 1) = n / P64 (j + 1) := by
  have hs := Qnl n j v h0 h1
  rw [put_eq,Int.add_comm,Int.add_mul_ediv_left _ _ (by have := Qdf (j + 1);omega),Int.ediv_eq_zero_of_lt hs.1 hs.2,Int.zero_add]
theorem put_mod (n : Int) (j : Nat) (v : Int) : put n j v % P64 j = n % P64 j := by
  rw [put_eq,Qgp,Int.mul_assoc,Int.add_comm,Int.add_mul_emod_self_left,Int.add_comm,Int.add_mul_emod_self_left,Int.emod_emod_of_dvd _ (Int.dvd_refl _)]
theorem lb_put (n : Int) (j : Nat) (v : Int) (h0 : 0 ≤ v) (h1 : v < 18446744073709551616) (i : Nat) : lb (put n j v) i = upd (lb n) j v i := by
  by_cases hij : i = j
  · subst hij
    rw [Qch,lb_P64,put_eq,Qgp,Int.mul_assoc,← Int.add_assoc,← Int.mul_add,Int.add_comm,Int.add_mul_ediv_left _ _ (by have := Qdf i;omega),Int.ediv_eq_zero_of_lt (mod_bd n i).1 (mod_bd n i).2]
    omega
  · rw [Qds _ _ hij]
    by_cases hlt : i < j
    · -- below: what lies modulo 2^(64 (i + 1)) is the same
      have key : ∀ m : Int,lb m i = (m % P64 j) / P64 i % 18446744073709551616 := by
        intro m
        obtain ⟨d,rfl⟩ : ∃ d,j = (i + 1) + d := ⟨j - (i + 1),by omega⟩
        have e : m % P64 (i + 1 + d) = m + P64 i * (- (18446744073709551616 * (P64 d * (m / P64 (i + 1 + d))))) := by
          rw [Int.emod_def,Qhc,Qgp,Int.mul_neg]
          simp only [Int.mul_assoc]
          omega
        rw [e,Int.add_mul_ediv_left _ _ (by have := Qdf i;omega),lb_P64]
        omega
      rw [key,key,put_mod]
    · obtain ⟨d,rfl⟩ : ∃ d,i = (j + 1) + d := ⟨i - (j + 1),by omega⟩
      have key : ∀ m : Int,lb m (j + 1 + d) = (m / P64 (j + 1)) / P64 d % 18446744073709551616 := by
        intro m
        rw [lb_P64,Qhc,Int.ediv_ediv_of_nonneg (by have := Qdf (j + 1);omega)]
      rw [key,key,put_div _ _ _ h0 h1]
theorem put_bd (n : Int) (j : Nat) (v : Int) (hn : 0 ≤ n) (hn' : n < M512) (h0 : 0 ≤ v) (h1 : v < 18446744073709551616) (hj : j < 8) : 0 ≤ put n j v ∧ put n j v < M512 := by
  have hs := Qnl n j v h0 h1
  have hp := Qdf (j + 1)
  have hq : 0 ≤ n / P64 (j + 1) := Int.ediv_nonneg hn (by omega)
  have hM : M512 = P64 (j + 1) * P64 (7 - j) := by rw [← Qhc,← Qgc];congr 1;omega
  have hq' : n / P64 (j + 1) < P64 (7 - j) := by
    rw [Int.ediv_lt_iff_lt_mul hp,Int.mul_comm,← hM];exact hn'
  have h2 := Int.mul_le_mul_of_nonneg_left (show n / P64 (j + 1) + 1 ≤ P64 (7 - j) by omega) (show (0 : Int) ≤ P64 (j + 1) by omega)
  have h3 := Int.mul_nonneg (show (0 : Int) ≤ P64 (j + 1) by omega) hq
  rw [Int.mul_add,← hM] at h2
  rw [put_eq]
  omega
theorem LB_put (n : Int) (j : Nat) (v : Int) (h0 : 0 ≤ v) (h1 : v < 18446744073709551616) : LB (upd (lb n) j v) = LB (lb (put n j v)) :=
  Qdg fun i _ => (lb_put n j v h0 h1 i).symm
end Go.Proofs.Ytdfdmeoalbpcdaa

set_option maxRecDepth 100000
namespace Go.Proofs.Ytdfdmeoalbpcdaa
open Go Go.RowKit
theorem Qip {P : Program} (w : World) (d n : Nat) (t e : TypeId) (ht : P.underlying t = some (.array n e)) (he : P.underlying e = some (.int .u64)) (h1 : OneTy P e) (X Y : Nat → Int) (xs ys : Array Value)
    (hx : ∀ i,i < n → xs[i]? = some (.int .u64 (X i))) (hy : ∀ i,i < n → ys[i]? = some (.int .u64 (Y i))) :
    (Op.equalIn (d + 2) t (.agg xs) (.agg ys)).run P w = .ok ((List.range' 0 n 1).all fun i => X i == Y i) w := by
  have hpart : ∀ (cs : Array Value) (i : Nat) (v : Value),cs[i]? = some v → (part e cs i).run P w = .ok v w := by
    intro cs i v hv
    simp [part,h1.agg,hv]
  have heq : ∀ a b : Int,(Op.equalIn (d + 1) e (.int .u64 a) (.int .u64 b)).run P w = .ok (a == b) w := fun a b => by
    simp [Op.equalIn,run_underlying he]
  rw [show d + 2 = (d + 1) + 1 from rfl,Op.equalIn]
  simp only [Sem.run_bind,run_underlying ht,Result.andThen_ok,h1.size]
  simp only [Std.Legacy.Range.forIn_eq_forIn_range',Std.Legacy.Range.size,Nat.mul_one,Nat.sub_zero,Nat.add_sub_cancel,Nat.div_one]
  have hl : ∀ i ∈ List.range' 0 n 1,i < n := by intro i hi;simp at hi;omega
  revert hl
  generalize List.range' 0 n 1 = l
  intro hl
  induction l with
  | nil => simp
  | cons i l ih =>
    have ih' := ih fun j hj => hl j (by simp [hj])
    have hi := hl i (by simp)
    simp only [List.forIn_cons,Sem.run_bind,hpart xs i _ (hx i hi),hpart ys i _ (hy i hi),heq,Result.andThen_ok,List.all_cons]
    cases h : X i == Y i
    · simp
    · simp only [Bool.not_true,Bool.false_eq_true,if_false,Sem.run_pure,Result.andThen_ok,Bool.true_and]
      exact ih'
theorem Qfg {P : Program} (w : World) (d : Nat) (t e : TypeId) (ht : P.underlying t = some (.array 8 e)) (he : P.underlying e = some (.int .u64)) (h1 : OneTy P e) (X Y : Nat → Int) :
    (Op.equalIn (d + 2) t (.agg #[.int .u64 (X 0),.int .u64 (X 1),.int .u64 (X 2),.int .u64 (X 3),.int .u64 (X 4),.int .u64 (X 5),.int .u64 (X 6),.int .u64 (X 7)]) (.agg #[.int .u64 (Y 0),.int .u64 (Y 1),.int .u64 (Y 2),.int .u64 (Y 3),.int .u64 (Y 4),.int .u64 (Y 5),.int .u64 (Y 6),.int .u64 (Y 7)])).run P w =
      .ok (X 0 == Y 0 && (X 1 == Y 1 && (X 2 == Y 2 && (X 3 == Y 3 && (X 4 == Y 4 && (X 5 == Y 5 && (X 6 == Y 6 && X 7 == Y 7))))))) w := by
  have h := Qip w d 8 t e ht he h1 X Y (xs := #[.int .u64 (X 0),.int .u64 (X 1),.int .u64 (X 2),.int .u64 (X 3),.int .u64 (X 4),.int .u64 (X 5),.int .u64 (X 6),.int .u64 (X 7)]) (ys := #[.int .u64 (Y 0),.int .u64 (Y 1),.int .u64 (Y 2),.int .u64 (Y 3),.int .u64 (Y 4),.int .u64 (Y 5),.int .u64 (Y 6),.int .u64 (Y 7)])
    (by intro i hi;match i,hi with|0,_|1,_|2,_|3,_|4,_|5,_|6,_|7,_ => rfl) (by intro i hi;match i,hi with|0,_|1,_|2,_|3,_|4,_|5,_|6,_|7,_ => rfl)
  rw [h]
  simp [List.range'_succ]
/-- The values of eight numbers. -/
def vec8 (x0 x1 x2 x3 x4 x5 x6 x7 : Int) : Nat → Int
  | 0 => x0|1 => x1|2 => x2|3 => x3|4 => x4|5 => x5|6 => x6|_ => x7
@[go_sem] theorem eq_arr (w : World) (d : Nat) (x0 x1 x2 x3 x4 x5 x6 x7 y0 y1 y2 y3 y4 y5 y6 y7 : Int) :
    (Op.equalIn (d + 2) 26 (.agg #[.int .u64 x0,.int .u64 x1,.int .u64 x2,.int .u64 x3,.int .u64 x4,.int .u64 x5,.int .u64 x6,.int .u64 x7]) (.agg #[.int .u64 y0,.int .u64 y1,.int .u64 y2,.int .u64 y3,.int .u64 y4,.int .u64 y5,.int .u64 y6,.int .u64 y7])).run Try.prog w =
      .ok (x0 == y0 && (x1 == y1 && (x2 == y2 && (x3 == y3 && (x4 == y4 && (x5 == y5 && (x6 == y6 && x7 == y7))))))) w :=
  Qfg w d _ _ Try.underlying26 Try.underlying25 inferInstance (vec8 x0 x1 x2 x3 x4 x5 x6 x7) (vec8 y0 y1 y2 y3 y4 y5 y6 y7)
@[go_sem] theorem eq_limbs (w : World) (d : Nat) (x0 x1 x2 x3 x4 x5 x6 x7 y0 y1 y2 y3 y4 y5 y6 y7 : Int) :
    (Op.equalIn (d + 2) 80 (.agg #[.int .u64 x0,.int .u64 x1,.int .u64 x2,.int .u64 x3,.int .u64 x4,.int .u64 x5,.int .u64 x6,.int .u64 x7]) (.agg #[.int .u64 y0,.int .u64 y1,.int .u64 y2,.int .u64 y3,.int .u64 y4,.int .u64 y5,.int .u64 y6,.int .u64 y7])).run Try.prog w =
      .ok (x0 == y0 && (x1 == y1 && (x2 == y2 && (x3 == y3 && (x4 == y4 && (x5 == y5 && (x6 == y6 && x7 == y7))))))) w :=
  Qfg w d _ _ Try.underlying80 Try.underlying25 inferInstance (vec8 x0 x1 x2 x3 x4 x5 x6 x7) (vec8 y0 y1 y2 y3 y4 y5 y6 y7)
end Go.Proofs.Ytdfdmeoalbpcdaa
set_option maxRecDepth 100000
namespace Go.Proofs.Ytdfdmeoalbpcdaa
open Go Go.RowKit
@[go_sem high] theorem eq_point (w : World) (d : Nat) (x0 x1 x2 y0 y1 y2 : Int) : (Op.equalIn (d + 2) 24 (.agg #[.int .i64 x0,.int .i64 x1,.int .i64 x2]) (.agg #[.int .i64 y0,.int .i64 y1,.int .i64 y2])).run Try.prog w = .ok (x0 == y0 && (x1 == y1 && x2 == y2)) w := by
  by_cases h0 : x0 = y0 <;> by_cases h1 : x1 = y1 <;> by_cases h2 : x2 = y2 <;> (go_simp;try simp [h0,h1,h2])
@[go_sem high] theorem eq_wide (w : World) (d : Nat) (x0 x1 x2 x3 x4 x5 x6 x7 y0 y1 y2 y3 y4 y5 y6 y7 : Int) : (Op.equalIn (d + 3) 28 (.agg #[.int .u64 x0,.int .u64 x1,.int .u64 x2,.int .u64 x3,.int .u64 x4,.int .u64 x5,.int .u64 x6,.int .u64 x7]) (.agg #[.int .u64 y0,.int .u64 y1,.int .u64 y2,.int .u64 y3,.int .u64 y4,.int .u64 y5,.int .u64 y6,.int .u64 y7])).run Try.prog w = .ok (x0 == y0 && (x1 == y1 && (x2 == y2 && (x3 == y3 && (x4 == y4 && (x5 == y5 && (x6 == y6 && x7 == y7))))))) w := by
  go_simp
  generalize (x0 == y0 && (x1 == y1 && (x2 == y2 && (x3 == y3 && (x4 == y4 && (x5 == y5 && (x6 == y6 && x7 == y7))))))) = b
  cases b <;> simp
@[go_sem high] theorem eq_span (w : World) (d : Nat) (x0 x1 x2 x3 x4 x5 x6 x7 x8 x9 x10 x11 x12 x13 x14 x15 x16 x17 x18 x19 x20 x21 x22 x23 y0 y1 y2 y3 y4 y5 y6 y7 y8 y9 y10 y11 y12 y13 y14 y15 y16 y17 y18 y19 y20 y21 y22 y23 : Int) : (Op.equalIn (d + 4) 30 (.agg #[.int .u64 x0,.int .u64 x1,.int .u64 x2,.int .u64 x3,.int .u64 x4,.int .u64 x5,.int .u64 x6,.int .u64 x7,.int .u64 x8,.int .u64 x9,.int .u64 x10,.int .u64 x11,.int .u64 x12,.int .u64 x13,.int .u64 x14,.int .u64 x15,.int .u64 x16,.int .u64 x17,.int .u64 x18,.int .u64 x19,.int .u64 x20,.int .u64 x21,.int .u64 x22,.int .u64 x23]) (.agg #[.int .u64 y0,.int .u64 y1,.int .u64 y2,.int .u64 y3,.int .u64 y4,.int .u64 y5,.int .u64 y6,.int .u64 y7,.int .u64 y8,.int .u64 y9,.int .u64 y10,.int .u64 y11,.int .u64 y12,.int .u64 y13,.int .u64 y14,.int .u64 y15,.int .u64 y16,.int .u64 y17,.int .u64 y18,.int .u64 y19,.int .u64 y20,.int .u64 y21,.int .u64 y22,.int .u64 y23])).run Try.prog w = .ok ((x0 == y0 && (x1 == y1 && (x2 == y2 && (x3 == y3 && (x4 == y4 && (x5 == y5 && (x6 == y6 && x7 == y7))))))) && ((x8 == y8 && (x9 == y9 && (x10 == y10 && (x11 == y11 && (x12 == y12 && (x13 == y13 && (x14 == y14 && x15 == y15))))))) && (x16 == y16 && (x17 == y17 && (x18 == y18 && (x19 == y19 && (x20 == y20 && (x21 == y21 && (x22 == y22 && x23 == y23))))))))) w := by
  go_simp
  generalize (x0 == y0 && (x1 == y1 && (x2 == y2 && (x3 == y3 && (x4 == y4 && (x5 == y5 && (x6 == y6 && x7 == y7))))))) = b
  generalize (x8 == y8 && (x9 == y9 && (x10 == y10 && (x11 == y11 && (x12 == y12 && (x13 == y13 && (x14 == y14 && x15 == y15))))))) = c
  generalize (x16 == y16 && (x17 == y17 && (x18 == y18 && (x19 == y19 && (x20 == y20 && (x21 == y21 && (x22 == y22 && x23 == y23))))))) = e
  cases b <;> cases c <;> cases e <;> simp
end Go.Proofs.Ytdfdmeoalbpcdaa
