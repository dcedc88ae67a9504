/-
  Package grid: common (contract).
  Package grid: near, Round, Cmp; cmp.Compare, cmp.Or (contracts).
  Package grid: Prime (contract).
  ninepinlaw06: awake (contract).
  Orders of points (plain).
  The arguments of a law: points.
  The arguments of a law: wide numbers, spans.
-/
import Derived.Test.YtdfdmeoalbpcdaaDf
import Derived.Test.YtdfdmeoalbpcdaaHb
import Derived.Test.YtdfdmeoalbpcdaaEr
import Derived.Test.YtdfdmeoalbpcdaaGd
import Derived.Test.YtdfdmeoalbpcdaaGb
import Derived.WalkKit
import Derived.ProofKit
import Derived.OpenShut
import Derived.ShutString
import Derived.ChangeOld
import Derived.Below
import Derived.Lib.SmallJoins
import Derived.Deep.Slices
import Derived.Deep.Strs
set_option linter.unusedSimpArgs false
set_option linter.unusedVariables false
set_option maxRecDepth 100000
namespace Go.Proofs.Ytdfdmeoalbpcdaa
open Go Go.RowKit
/-- The greatest common divisor of two numbers from 0 on. -/
def cg (x y : Int) : Int := ((Nat.gcd x.toNat y.toNat : Nat) : Int)
theorem Qgz {x : Int} (h : 0 ≤ x) : cg x 0 = x := by
  unfold cg
  simp
  exact Int.max_eq_left h
theorem Qgq {x y : Int} (hx : 0 ≤ x) (hy : 0 < y) : cg y (x % y) = cg x y := by
  unfold cg
  have e : (x % y).toNat = x.toNat % y.toNat := by
    have : ((x.toNat % y.toNat : Nat) : Int) = x % y := by rw [Int.natCast_emod];congr 1 <;> omega
    omega
  rw [e,Nat.gcd_comm,← Nat.gcd_rec,Nat.gcd_comm]
/-- The number whose limbs lie in a block. -/
def cval : List Value → Int
  | [] => 0
  | .int _ n :: l => n + 18446744073709551616 * cval l
  | _ :: l => 18446744073709551616 * cval l
def bval (g : Nat) (w : World) : Nat := match w.heap[g]? with
  | some (.cells cs _ _) => (cval cs.toList).toNat
  | _ => 0
theorem cval_W {y : Int} (h0 : 0 ≤ y) (h1 : y < M512) : cval [.int .u64 (lb (y) 0),.int .u64 (lb (y) 1),.int .u64 (lb (y) 2),.int .u64 (lb (y) 3),.int .u64 (lb (y) 4),.int .u64 (lb (y) 5),.int .u64 (lb (y) 6),.int .u64 (lb (y) 7)] = y := by
  have s := fun k => Qjy y k
  have h8 : y % 2 ^ (64 * 8) = y := Int.emod_eq_of_lt h0 (by rw [← M512_eq];exact h1)
  have e := fun k => Qda k
  have s7 := s 7;have s6 := s 6;have s5 := s 5;have s4 := s 4;have s3 := s 3;have s2 := s 2;have s1 := s 1;have s0 := s 0
  simp only [cval,Nat.reduceAdd] at *
  rw [h8] at s7
  have p1 : (2 : Int) ^ (64 * 1) = 18446744073709551616 := rfl
  have p2 := e 1;have p3 := e 2;have p4 := e 3;have p5 := e 4;have p6 := e 5;have p7 := e 6
  simp only [Nat.reduceAdd] at p2 p3 p4 p5 p6 p7
  rw [p1] at p2;rw [p2] at p3;rw [p3] at p4;rw [p4] at p5;rw [p5] at p6;rw [p6] at p7
  rw [p7] at s7;rw [p6,p7] at s6;rw [p5,p6] at s5;rw [p4,p5] at s4;rw [p3,p4] at s3;rw [p2,p3] at s2;rw [p1,p2] at s1;rw [p1] at s0
  have z : y % 2 ^ (64 * 0) = 0 := by simp [Int.emod_one]
  have z2 : (2 : Int) ^ (64 * 0) = 1 := rfl
  rw [z,z2] at s0
  omega
theorem Qct {X : List Nat} {w0 w : World} {H : List Bk} {g : Nat} {t : TypeId} {y : Int} (hp : Hp X w0 H w) [h : Has H g t [.int .u64 (lb (y) 0),.int .u64 (lb (y) 1),.int .u64 (lb (y) 2),.int .u64 (lb (y) 3),.int .u64 (lb (y) 4),.int .u64 (lb (y) 5),.int .u64 (lb (y) 6),.int .u64 (lb (y) 7)]] (h0 : 0 ≤ y) (h1 : y < M512) : bval g w = y.toNat := by
  unfold bval
  rw [hp.blk]
  dsimp only
  rw [cval_W h0 h1]
end Go.Proofs.Ytdfdmeoalbpcdaa

set_option linter.unusedSimpArgs false
set_option linter.unusedVariables false
set_option maxRecDepth 100000
namespace Go.Proofs.Ytdfdmeoalbpcdaa
open Go Go.RowKit
/-! ### Comparing -/
def cp (x y : Int) : Int := if x < y then -1 else if y < x then 1 else 0
end Go.Proofs.Ytdfdmeoalbpcdaa

set_option linter.unusedSimpArgs false
set_option linter.unusedVariables false
set_option maxRecDepth 100000
namespace Go.Proofs.Ytdfdmeoalbpcdaa
open Go Go.RowKit
def az (n : Int) : Int := if n < 0 then -n else n
section
variable (w : World) (gs gk gp gn ga gb : Nat) (x y z : Int)
end
end Go.Proofs.Ytdfdmeoalbpcdaa

set_option linter.unusedSimpArgs false
set_option linter.unusedVariables false
set_option maxRecDepth 100000
namespace Go.Proofs.Ytdfdmeoalbpcdaa
open Go Go.RowKit
end Go.Proofs.Ytdfdmeoalbpcdaa

set_option linter.unusedSimpArgs false
set_option linter.unusedVariables false
set_option maxRecDepth 100000
namespace Go.Proofs.Ytdfdmeoalbpcdaa
open Go Go.RowKit
end Go.Proofs.Ytdfdmeoalbpcdaa

set_option linter.unusedVariables false
set_option maxRecDepth 100000
namespace Go.Proofs.Ytdfdmeoalbpcdaa
open Go Go.ChangeShapes Go.WideShapes Go.ChangeAt Go.RowKit Go.Joins
theorem own : ownKnob Try.prog.godebug = none := by kernel_rfl
theorem Qoj : laidOutB Try.prog = true := by kernel_rfl
theorem Qkh {n : Int} (h : (Lit.int .i64 n).wf = true) : I64 n := by
  unfold I64
  simp [Lit.wf,IntKind.min,IntKind.max,IntKind.bits,IntKind.signed] at h
  omega
theorem Qkt : Try.prog.cellsOf 24 = 3 := by kernel_rfl
/-- A point that came in. -/
theorem open_point {H : Type} {enc : TypeId × Value → H} {W : World} {r : Reach} {b0 base : Nat} {spare : Nat → Bool} {held : Bool} {v : Value} {d : DataW H} {p : List MemPlace}
    (hv : Value.okWide Try.prog W r b0 24 v) (h : DataW.Trod enc Try.prog W base spare held 24 v d p) : ∃ q : P3,v = PV q ∧ q.i64 := by
  obtain ⟨c0,c1,c2,y0,y1,y2,m,rfl,rfl,rfl,h0,h1,h2⟩ := open_agg3 Try.underlying24 (by kernel_rfl) Qkt hv h
  obtain ⟨x,e0,_,w0⟩ := DataW.trod_int Try.underlying2 h0
  obtain ⟨y,e1,_,w1⟩ := DataW.trod_int Try.underlying2 h1
  obtain ⟨z,e2,_,w2⟩ := DataW.trod_int Try.underlying2 h2
  simp at e0 e1 e2
  subst e0 e1 e2
  exact ⟨⟨x,y,z⟩,rfl,Qkh w0,Qkh w1,Qkh w2⟩
end Go.Proofs.Ytdfdmeoalbpcdaa

set_option linter.unusedVariables false
set_option maxRecDepth 100000
namespace Go.Proofs.Ytdfdmeoalbpcdaa
open Go Go.ChangeShapes Go.WideShapes Go.ChangeAt Go.RowKit Go.Joins
structure S3 where (x y z : Int)
def S3.fit (n : S3) : Prop := Fit n.x ∧ Fit n.y ∧ Fit n.z
end Go.Proofs.Ytdfdmeoalbpcdaa
