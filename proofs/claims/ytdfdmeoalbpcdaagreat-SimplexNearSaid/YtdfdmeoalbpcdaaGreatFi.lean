/-
  Package grid: common (contract).
  Package grid: near, Round, Cmp; cmp.Compare, cmp.Or (contracts).
  Package grid: Prime (contract).
  ninepinlaw06: awake (contract).
  Orders of points (plain).
  The arguments of a law: points.
  The arguments of a law: wide numbers, spans.
  Package ninepinref06: Along; ninepinlaw06.GridAlong (contracts).
-/
import Derived.Test.YtdfdmeoalbpcdaaGreatDf
import Derived.Test.YtdfdmeoalbpcdaaGreatHc
import Derived.Test.YtdfdmeoalbpcdaaGreatEr
import Derived.Test.YtdfdmeoalbpcdaaGreatGd
import Derived.Test.YtdfdmeoalbpcdaaGreatBn
import Derived.WalkKit
import Derived.ProofKit
import Derived.OpenShut
import Derived.ShutString
import Derived.ChangeOld
import Derived.Below
import Derived.Lib.SmallJoins
import Derived.Deep.Slices
import Derived.Deep.Strs
import Derived.Test.YtdfdmeoalbpcdaaGreatBh
import Derived.Test.YtdfdmeoalbpcdaaGreatGc
set_option linter.unusedSimpArgs false
set_option linter.unusedVariables false
set_option maxRecDepth 100000
namespace Go.Proofs.YtdfdmeoalbpcdaaGreat
open Go Go.RowKit
/-- The greatest common divisor of two numbers from 0 on. -/
def cg (x y : Int) : Int := ((Nat.gcd x.toNat y.toNat : Nat) : Int)
theorem Qgy {x : Int} (h : 0 ≤ x) : cg x 0 = x := by
  unfold cg
  simp
  exact Int.max_eq_left h
theorem Qhb {x y : Int} (hx : 0 ≤ x) (hy : 0 < y) : cg y (x % y) = cg x y := by
  unfold cg
  have e : (x % y).toNat = x.toNat % y.toNat := by
    have : ((x.toNat % y.toNat : Nat) : Int) = x % y := by rw [Int.natCast_emod];congr 1 <;> omega
    omega
  rw [e,Nat.gcd_comm,← Nat.gcd_rec,Nat.gcd_comm]
/-- The number whose limbs lie in a block. -/
def cval : List Value → Int
  | [] => 0
  | .int _ n :: l => n + 18446744073709551616 * cval l
  | _ :: l => 18446744073709551616 * cval l
def bval (g : Nat) (w : World) : Nat := match w.heap[g]? with
  | some (.cells cs _ _) => (cval cs.toList).toNat
  | _ => 0
theorem cval_W {y : Int} (h0 : 0 ≤ y) (h1 : y < M512) : cval [.int .u64 (lb (y) 0),.int .u64 (lb (y) 1),.int .u64 (lb (y) 2),.int .u64 (lb (y) 3),.int .u64 (lb (y) 4),.int .u64 (lb (y) 5),.int .u64 (lb (y) 6),.int .u64 (lb (y) 7)] = y := by
  have s := fun k => Qlo y k
  have h8 : y % 2 ^ (64 * 8) = y := Int.emod_eq_of_lt h0 (by rw [← M512_eq];exact h1)
  have e := fun k => Qdy k
  have s7 := s 7;have s6 := s 6;have s5 := s 5;have s4 := s 4;have s3 := s 3;have s2 := s 2;have s1 := s 1;have s0 := s 0
  simp only [cval,Nat.reduceAdd] at *
  rw [h8] at s7
  have p1 : (2 : Int) ^ (64 * 1) = 18446744073709551616 := rfl
  have p2 := e 1;have p3 := e 2;have p4 := e 3;have p5 := e 4;have p6 := e 5;have p7 := e 6
  simp only [Nat.reduceAdd] at p2 p3 p4 p5 p6 p7
  rw [p1] at p2;rw [p2] at p3;rw [p3] at p4;rw [p4] at p5;rw [p5] at p6;rw [p6] at p7
  rw [p7] at s7;rw [p6,p7] at s6;rw [p5,p6] at s5;rw [p4,p5] at s4;rw [p3,p4] at s3;rw [p2,p3] at s2;rw [p1,p2] at s1;rw [p1] at s0
  have z : y % 2 ^ (64 * 0) = 0 := by simp [Int.emod_one]
  have z2 : (2 : Int) ^ (64 * 0) = 1 := rfl
  rw [z,z2] at s0
  omega
theorem Qdm {X : List Nat} {w0 w : World} {H : List Bk} {g : Nat} {t : TypeId} {y : Int} (hp : Hp X w0 H w) [h : Has H g t [.int .u64 (lb (y) 0),.int .u64 (lb (y) 1),.int .u64 (lb (y) 2),.int .u64 (lb (y) 3),.int .u64 (lb (y) 4),.int .u64 (lb (y) 5),.int .u64 (lb (y) 6),.int .u64 (lb (y) 7)]] (h0 : 0 ≤ y) (h1 : y < M512) : bval g w = y.toNat := by
  unfold bval
  rw [hp.blk]
  dsimp only
  rw [cval_W h0 h1]
end Go.Proofs.YtdfdmeoalbpcdaaGreat

set_option linter.unusedSimpArgs false
set_option linter.unusedVariables false
set_option maxRecDepth 100000
namespace Go.Proofs.YtdfdmeoalbpcdaaGreat
open Go Go.RowKit
/-! ### Comparing -/
def cp (x y : Int) : Int := if x < y then -1 else if y < x then 1 else 0
end Go.Proofs.YtdfdmeoalbpcdaaGreat

set_option linter.unusedSimpArgs false
set_option linter.unusedVariables false
set_option maxRecDepth 100000
namespace Go.Proofs.YtdfdmeoalbpcdaaGreat
open Go Go.RowKit
def az (n : Int) : Int := if n < 0 then -n else n
section
variable (w : World) (gs gk gp gn ga gb : Nat) (x y z : Int)
end
end Go.Proofs.YtdfdmeoalbpcdaaGreat

set_option linter.unusedSimpArgs false
set_option linter.unusedVariables false
set_option maxRecDepth 100000
namespace Go.Proofs.YtdfdmeoalbpcdaaGreat
open Go Go.RowKit
end Go.Proofs.YtdfdmeoalbpcdaaGreat

set_option linter.unusedSimpArgs false
set_option linter.unusedVariables false
set_option maxRecDepth 100000
namespace Go.Proofs.YtdfdmeoalbpcdaaGreat
open Go Go.RowKit
end Go.Proofs.YtdfdmeoalbpcdaaGreat

set_option linter.unusedVariables false
set_option maxRecDepth 100000
namespace Go.Proofs.YtdfdmeoalbpcdaaGreat
open Go Go.ChangeShapes Go.WideShapes Go.ChangeAt Go.RowKit Go.Joins
theorem own : ownKnob Tryz.prog.godebug = none := by kernel_rfl
theorem laidOut : laidOutB Tryz.prog = true := by kernel_rfl
theorem i64_wf {n : Int} (h : (Lit.int .i64 n).wf = true) : I64 n := by
  unfold I64
  simp [Lit.wf,IntKind.min,IntKind.max,IntKind.bits,IntKind.signed] at h
  omega
theorem cellsPoint : Tryz.prog.cellsOf 39 = 3 := by kernel_rfl
end Go.Proofs.YtdfdmeoalbpcdaaGreat

set_option linter.unusedVariables false
set_option maxRecDepth 100000
namespace Go.Proofs.YtdfdmeoalbpcdaaGreat
open Go Go.ChangeShapes Go.WideShapes Go.ChangeAt Go.RowKit Go.Joins
structure S3 where (x y z : Int)
def S3.fit (n : S3) : Prop := Fit n.x ∧ Fit n.y ∧ Fit n.z
end Go.Proofs.YtdfdmeoalbpcdaaGreat

set_option linter.unusedSimpArgs false
set_option linter.unusedVariables false
set_option maxRecDepth 100000
namespace Go.Proofs.YtdfdmeoalbpcdaaGreat
open Go Go.RowKit
attribute [local irreducible] wpList
set_option maxHeartbeats 8000000 in
theorem ralong_core (x y z p q r a b c s t : Int) (v : Value) (f1 f2 f3 f4 f5 o : Bool) (hv : v = if f1 && (f2 && (f3 && (f4 && f5))) then W t else .agg #[.int .u64 0,.int .u64 0,.int .u64 0,.int .u64 0,.int .u64 0,.int .u64 0,.int .u64 0,.int .u64 0]) (ho : o = (f1 && (f2 && (f3 && (f4 && f5)))))
    (S1 : Hid (∀ w,Calls Tryz.prog 66 #[.int .i64 p] w (Ret (W p) w)))
    (S2 : Hid (∀ w,Calls Tryz.prog 66 #[.int .i64 q] w (Ret (W q) w)))
    (S3 : Hid (∀ w,Calls Tryz.prog 66 #[.int .i64 r] w (Ret (W r) w)))
    (M1 : Hid (∀ w,Calls Tryz.prog 108 #[W x,W p] w (Ret (.tuple #[W a,.bool f1]) w)))
    (M2 : Hid (∀ w,Calls Tryz.prog 108 #[W y,W q] w (Ret (.tuple #[W b,.bool f2]) w)))
    (M3 : Hid (∀ w,Calls Tryz.prog 108 #[W z,W r] w (Ret (.tuple #[W c,.bool f3]) w)))
    (A1 : Hid (∀ w,Calls Tryz.prog 109 #[W a,W b] w (Ret (.tuple #[W s,.bool f4]) w)))
    (A2 : Hid (∀ w,Calls Tryz.prog 109 #[W s,W c] w (Ret (.tuple #[W t,.bool f5]) w)))
    (w : World) : Calls Tryz.prog 71 #[Sv x y z,Pv p q r] w (Ret (.tuple #[v,.bool o]) w) := by
  go_enter Tryz.func71,Tryz.ntmps71
  have hp := Hp.start [] w
  go_upto_region 1 with (first|((with_reducible apply Qau hp);(exact za rfl);exact rfl;clear hp;(try clear w1);intro g w1 hp;simp only [zp,zq,z0,z1])|((with_reducible apply Qag hp);exact ii;exact rfl;clear hp;(try clear w1);intro g w1 hp;simp only [zp,zq,z0,z1]))
  rename_i gn gp K hK
  obtain ⟨gr,rfl⟩ : ∃ k : Nat,k = g := ⟨_,rfl⟩
  go_cut [6,7] (fun s1 s2 wx => ∃ g6,s1 = .pointer (some ⟨g6,0,none⟩) ∧ s2 = .bool f1 ∧ Hp [] w [⟨g6,27,[.int .u64 (lb (a) 0),.int .u64 (lb (a) 1),.int .u64 (lb (a) 2),.int .u64 (lb (a) 3),.int .u64 (lb (a) 4),.int .u64 (lb (a) 5),.int .u64 (lb (a) 6),.int .u64 (lb (a) 7)]⟩,⟨gr,27,[.int .u64 0,.int .u64 0,.int .u64 0,.int .u64 0,.int .u64 0,.int .u64 0,.int .u64 0,.int .u64 0]⟩,⟨gp,39,[.int .i64 p,.int .i64 q,.int .i64 r]⟩,⟨gn,29,[.int .u64 (lb (x) 0),.int .u64 (lb (x) 1),.int .u64 (lb (x) 2),.int .u64 (lb (x) 3),.int .u64 (lb (x) 4),.int .u64 (lb (x) 5),.int .u64 (lb (x) 6),.int .u64 (lb (x) 7),.int .u64 (lb (y) 0),.int .u64 (lb (y) 1),.int .u64 (lb (y) 2),.int .u64 (lb (y) 3),.int .u64 (lb (y) 4),.int .u64 (lb (y) 5),.int .u64 (lb (y) 6),.int .u64 (lb (y) 7),.int .u64 (lb (z) 0),.int .u64 (lb (z) 1),.int .u64 (lb (z) 2),.int .u64 (lb (z) 3),.int .u64 (lb (z) 4),.int .u64 (lb (z) 5),.int .u64 (lb (z) 6),.int .u64 (lb (z) 7)]⟩] wx)
  case first =>
    skip
    have hq := hp
    refine Qad hp hq [] (.q 0 (.q 1 (.q 2 (.q 3 (.b2 4 (.b2 5 (.q 6 (.q 7 (.q 8 (.l 9 (.l 10 (.q 11 .nil)))))) 9 (.l 5 (.q 6 (.q 7 (.q 8 (.l 10 (.q 11 .nil))))))) 9 (.l 4 (.l 5 (.q 6 (.q 7 (.q 8 (.l 10 (.q 11 .nil)))))))))))) (by kernel_rfl) (by kernel_rfl) ?_
    clear hp hq;(try clear w1);intro w1 hp hq
    repeat' (first|(((with_reducible apply sd_q);exact zo rfl);(first|((with_reducible apply Qah hp);exact rfl;exact zt rfl;exact ii;exact ii;(exact zl rfl);(simp only [n0,Nat.reduceAdd,nn];try rfl);simp only [zp,zq,z0,z1])|((with_reducible apply Qba hp);exact rfl;exact zt rfl;exact ii;exact ii;(exact zio rfl);simp only [zp,zq,z0,z1])|((with_reducible apply Qaq hp);exact zu rfl;simp only [zp,zq,z0,z1])|((with_reducible apply Qat hp);exact zb rfl;simp only [zp,zq,z0,z1])|((with_reducible apply Qaj hp);exact rfl;(focus (intro _;go_simp;(try go_ints);try with_reducible rfl));simp only [zp,zq,z0,z1])))|(((with_reducible apply sd_l);exact zo rfl);(first|((with_reducible apply Qcm hq);(repeat (exact sb0));exact rfl;exact ii;exact rfl;clear hp hq;(try clear w1);intro g w1 hp hq;simp only [zp,zq,z0,z1])|((with_reducible apply Qap hp);exact rfl;(focus (intro _;go_simp;try first|with_reducible rfl|exact ⟨rfl,rfl⟩));(with_reducible first|exact fun w => S1.out w|exact fun w => M1.out w);exact hq;clear hp hq;(try clear w1);intro w1 hp hq;simp only [zp,zq,z0,z1])|((with_reducible apply Qam hq);exact rfl;exact zt rfl;(exact za rfl);exact rfl;(exact AggTy.size);exact rfl;exact ii;(simp only [n0,Nat.reduceAdd,nn];try rfl);(exact zl rfl);exact rfl;exact ii;(repeat (first|exact sb0|apply sb3));clear hp hq;(try clear w1);intro w1 hp hq)))|(with_reducible apply Qfa)|((with_reducible apply Qao);clear hp;have hp := hq;clear hq))
    all_goals (go_wp2_with fail;go_meet;exact ⟨_,rfl,rfl,hp⟩)
  case rest =>
  clear hp
  obtain ⟨g6,rfl,rfl,hp⟩ := hcut
  go_upto_region 2 with (fail)
  go_cut [8,9] (fun s1 s2 wx => ∃ g8,s1 = .pointer (some ⟨g8,0,none⟩) ∧ s2 = .bool f2 ∧ Hp [] w [⟨g8,27,[.int .u64 (lb (b) 0),.int .u64 (lb (b) 1),.int .u64 (lb (b) 2),.int .u64 (lb (b) 3),.int .u64 (lb (b) 4),.int .u64 (lb (b) 5),.int .u64 (lb (b) 6),.int .u64 (lb (b) 7)]⟩,⟨g6,27,[.int .u64 (lb (a) 0),.int .u64 (lb (a) 1),.int .u64 (lb (a) 2),.int .u64 (lb (a) 3),.int .u64 (lb (a) 4),.int .u64 (lb (a) 5),.int .u64 (lb (a) 6),.int .u64 (lb (a) 7)]⟩,⟨gr,27,[.int .u64 0,.int .u64 0,.int .u64 0,.int .u64 0,.int .u64 0,.int .u64 0,.int .u64 0,.int .u64 0]⟩,⟨gp,39,[.int .i64 p,.int .i64 q,.int .i64 r]⟩,⟨gn,29,[.int .u64 (lb (x) 0),.int .u64 (lb (x) 1),.int .u64 (lb (x) 2),.int .u64 (lb (x) 3),.int .u64 (lb (x) 4),.int .u64 (lb (x) 5),.int .u64 (lb (x) 6),.int .u64 (lb (x) 7),.int .u64 (lb (y) 0),.int .u64 (lb (y) 1),.int .u64 (lb (y) 2),.int .u64 (lb (y) 3),.int .u64 (lb (y) 4),.int .u64 (lb (y) 5),.int .u64 (lb (y) 6),.int .u64 (lb (y) 7),.int .u64 (lb (z) 0),.int .u64 (lb (z) 1),.int .u64 (lb (z) 2),.int .u64 (lb (z) 3),.int .u64 (lb (z) 4),.int .u64 (lb (z) 5),.int .u64 (lb (z) 6),.int .u64 (lb (z) 7)]⟩] wx)
  case first =>
    skip
    have hq := hp
    refine Qad hp hq [] (.q 0 (.q 1 (.q 2 (.q 3 (.b2 4 (.b2 5 (.q 6 (.q 7 (.q 8 (.l 9 (.l 10 (.q 11 .nil)))))) 9 (.l 5 (.q 6 (.q 7 (.q 8 (.l 10 (.q 11 .nil))))))) 9 (.l 4 (.l 5 (.q 6 (.q 7 (.q 8 (.l 10 (.q 11 .nil)))))))))))) (by kernel_rfl) (by kernel_rfl) ?_
    clear hp hq;(try clear w1);intro w1 hp hq
    repeat' (first|(((with_reducible apply sd_q);exact zo rfl);(first|((with_reducible apply Qah hp);exact rfl;exact zt rfl;exact ii;exact ii;(exact zl rfl);(simp only [n0,Nat.reduceAdd,nn];try rfl);simp only [zp,zq,z0,z1])|((with_reducible apply Qba hp);exact rfl;exact zt rfl;exact ii;exact ii;(exact zio rfl);simp only [zp,zq,z0,z1])|((with_reducible apply Qaq hp);exact zu rfl;simp only [zp,zq,z0,z1])|((with_reducible apply Qat hp);exact zb rfl;simp only [zp,zq,z0,z1])|((with_reducible apply Qaj hp);exact rfl;(focus (intro _;go_simp;(try go_ints);try with_reducible rfl));simp only [zp,zq,z0,z1])))|(((with_reducible apply sd_l);exact zo rfl);(first|((with_reducible apply Qcm hq);(repeat (exact sb0));exact rfl;exact ii;exact rfl;clear hp hq;(try clear w1);intro g w1 hp hq;simp only [zp,zq,z0,z1])|((with_reducible apply Qap hp);exact rfl;(focus (intro _;go_simp;try first|with_reducible rfl|exact ⟨rfl,rfl⟩));(with_reducible first|exact fun w => S2.out w|exact fun w => M2.out w);exact hq;clear hp hq;(try clear w1);intro w1 hp hq;simp only [zp,zq,z0,z1])|((with_reducible apply Qam hq);exact rfl;exact zt rfl;(exact za rfl);exact rfl;(exact AggTy.size);exact rfl;exact ii;(simp only [n0,Nat.reduceAdd,nn];try rfl);(exact zl rfl);exact rfl;exact ii;(repeat (first|exact sb0|apply sb3));clear hp hq;(try clear w1);intro w1 hp hq)))|(with_reducible apply Qfa)|((with_reducible apply Qao);clear hp;have hp := hq;clear hq))
    all_goals (go_wp2_with fail;go_meet;exact ⟨_,rfl,rfl,hp⟩)
  case rest =>
  clear hp
  obtain ⟨g8,rfl,rfl,hp⟩ := hcut
  go_upto_region 3 with (fail)
  go_cut [10,11] (fun s1 s2 wx => ∃ g10,s1 = .pointer (some ⟨g10,0,none⟩) ∧ s2 = .bool f3 ∧ Hp [] w [⟨g10,27,[.int .u64 (lb (c) 0),.int .u64 (lb (c) 1),.int .u64 (lb (c) 2),.int .u64 (lb (c) 3),.int .u64 (lb (c) 4),.int .u64 (lb (c) 5),.int .u64 (lb (c) 6),.int .u64 (lb (c) 7)]⟩,⟨g8,27,[.int .u64 (lb (b) 0),.int .u64 (lb (b) 1),.int .u64 (lb (b) 2),.int .u64 (lb (b) 3),.int .u64 (lb (b) 4),.int .u64 (lb (b) 5),.int .u64 (lb (b) 6),.int .u64 (lb (b) 7)]⟩,⟨g6,27,[.int .u64 (lb (a) 0),.int .u64 (lb (a) 1),.int .u64 (lb (a) 2),.int .u64 (lb (a) 3),.int .u64 (lb (a) 4),.int .u64 (lb (a) 5),.int .u64 (lb (a) 6),.int .u64 (lb (a) 7)]⟩,⟨gr,27,[.int .u64 0,.int .u64 0,.int .u64 0,.int .u64 0,.int .u64 0,.int .u64 0,.int .u64 0,.int .u64 0]⟩,⟨gp,39,[.int .i64 p,.int .i64 q,.int .i64 r]⟩,⟨gn,29,[.int .u64 (lb (x) 0),.int .u64 (lb (x) 1),.int .u64 (lb (x) 2),.int .u64 (lb (x) 3),.int .u64 (lb (x) 4),.int .u64 (lb (x) 5),.int .u64 (lb (x) 6),.int .u64 (lb (x) 7),.int .u64 (lb (y) 0),.int .u64 (lb (y) 1),.int .u64 (lb (y) 2),.int .u64 (lb (y) 3),.int .u64 (lb (y) 4),.int .u64 (lb (y) 5),.int .u64 (lb (y) 6),.int .u64 (lb (y) 7),.int .u64 (lb (z) 0),.int .u64 (lb (z) 1),.int .u64 (lb (z) 2),.int .u64 (lb (z) 3),.int .u64 (lb (z) 4),.int .u64 (lb (z) 5),.int .u64 (lb (z) 6),.int .u64 (lb (z) 7)]⟩] wx)
  case first =>
    skip
    have hq := hp
    refine Qad hp hq [] (.q 0 (.q 1 (.q 2 (.q 3 (.b2 4 (.b2 5 (.q 6 (.q 7 (.q 8 (.l 9 (.l 10 (.q 11 .nil)))))) 9 (.l 5 (.q 6 (.q 7 (.q 8 (.l 10 (.q 11 .nil))))))) 9 (.l 4 (.l 5 (.q 6 (.q 7 (.q 8 (.l 10 (.q 11 .nil)))))))))))) (by kernel_rfl) (by kernel_rfl) ?_
    clear hp hq;(try clear w1);intro w1 hp hq
    repeat' (first|(((with_reducible apply sd_q);exact zo rfl);(first|((with_reducible apply Qah hp);exact rfl;exact zt rfl;exact ii;exact ii;(exact zl rfl);(simp only [n0,Nat.reduceAdd,nn];try rfl);simp only [zp,zq,z0,z1])|((with_reducible apply Qba hp);exact rfl;exact zt rfl;exact ii;exact ii;(exact zio rfl);simp only [zp,zq,z0,z1])|((with_reducible apply Qaq hp);exact zu rfl;simp only [zp,zq,z0,z1])|((with_reducible apply Qat hp);exact zb rfl;simp only [zp,zq,z0,z1])|((with_reducible apply Qaj hp);exact rfl;(focus (intro _;go_simp;(try go_ints);try with_reducible rfl));simp only [zp,zq,z0,z1])))|(((with_reducible apply sd_l);exact zo rfl);(first|((with_reducible apply Qcm hq);(repeat (exact sb0));exact rfl;exact ii;exact rfl;clear hp hq;(try clear w1);intro g w1 hp hq;simp only [zp,zq,z0,z1])|((with_reducible apply Qap hp);exact rfl;(focus (intro _;go_simp;try first|with_reducible rfl|exact ⟨rfl,rfl⟩));(with_reducible first|exact fun w => S3.out w|exact fun w => M3.out w);exact hq;clear hp hq;(try clear w1);intro w1 hp hq;simp only [zp,zq,z0,z1])|((with_reducible apply Qam hq);exact rfl;exact zt rfl;(exact za rfl);exact rfl;(exact AggTy.size);exact rfl;exact ii;(simp only [n0,Nat.reduceAdd,nn];try rfl);(exact zl rfl);exact rfl;exact ii;(repeat (first|exact sb0|apply sb3));clear hp hq;(try clear w1);intro w1 hp hq)))|(with_reducible apply Qfa)|((with_reducible apply Qao);clear hp;have hp := hq;clear hq))
    all_goals (go_wp2_with fail;go_meet;exact ⟨_,rfl,rfl,hp⟩)
  case rest =>
  clear hp
  obtain ⟨g10,rfl,rfl,hp⟩ := hcut
  clear S1 S2 S3 M1 M2 M3
  cases f1
  · obtain rfl : v = .agg #[.int .u64 0,.int .u64 0,.int .u64 0,.int .u64 0,.int .u64 0,.int .u64 0,.int .u64 0,.int .u64 0] := hv
    obtain rfl : o = false := ho
    go_wp2_with (first|((with_reducible apply Qag hp);exact ii;exact rfl;clear hp;(try clear w1);intro g w1 hp;simp only [zp,zq,z0,z1])|((with_reducible apply Qab hp);exact zt rfl;exact ii;exact ii;(exact zl rfl);(simp only [n0,Nat.reduceAdd,nn];try rfl);simp only [zp,zq,z0,z1])|((with_reducible apply Qae hp);exact zt rfl;exact za rfl;exact rfl;(exact AggTy.size);exact rfl;exact ii;(simp only [n0,Nat.reduceAdd,nn];try rfl);(exact zl rfl);exact rfl;exact ii;clear hp;(try clear w1);intro w1 hp)|((with_reducible first|refine Qaf hp (A1.out _) ?_|refine Qaf hp (A2.out _) ?_);clear hp;(try clear w1);intro w1 hp))
    exact bodyPost_ret (Qan rfl ⟨_,rfl,Qac hp (Nat.le_of_ble_eq_true rfl)⟩ rfl) rfl ⟨rfl,hp.keep⟩
  cases f2
  · obtain rfl : v = .agg #[.int .u64 0,.int .u64 0,.int .u64 0,.int .u64 0,.int .u64 0,.int .u64 0,.int .u64 0,.int .u64 0] := hv
    obtain rfl : o = false := ho
    go_wp2_with (first|((with_reducible refine Qge ?_);(conv => whnf);refine Bx.mk ?_;(try simp only [zp,zq,z0,z1]))|((with_reducible apply Qag hp);exact ii;exact rfl;clear hp;(try clear w1);intro g w1 hp;simp only [zp,zq,z0,z1])|((with_reducible apply Qab hp);exact zt rfl;exact ii;exact ii;(exact zl rfl);(simp only [n0,Nat.reduceAdd,nn];try rfl);simp only [zp,zq,z0,z1])|((with_reducible apply Qae hp);exact zt rfl;exact za rfl;exact rfl;(exact AggTy.size);exact rfl;exact ii;(simp only [n0,Nat.reduceAdd,nn];try rfl);(exact zl rfl);exact rfl;exact ii;clear hp;(try clear w1);intro w1 hp)|((with_reducible first|refine Qaf hp (A1.out _) ?_|refine Qaf hp (A2.out _) ?_);clear hp;(try clear w1);intro w1 hp))
    exact bodyPost_ret (Qan rfl ⟨_,rfl,Qac hp (Nat.le_of_ble_eq_true rfl)⟩ rfl) rfl ⟨rfl,hp.keep⟩
  cases f3
  · obtain rfl : v = .agg #[.int .u64 0,.int .u64 0,.int .u64 0,.int .u64 0,.int .u64 0,.int .u64 0,.int .u64 0,.int .u64 0] := hv
    obtain rfl : o = false := ho
    go_wp2_with (first|((with_reducible refine Qge ?_);(conv => whnf);refine Bx.mk ?_;(try simp only [zp,zq,z0,z1]))|((with_reducible apply Qag hp);exact ii;exact rfl;clear hp;(try clear w1);intro g w1 hp;simp only [zp,zq,z0,z1])|((with_reducible apply Qab hp);exact zt rfl;exact ii;exact ii;(exact zl rfl);(simp only [n0,Nat.reduceAdd,nn];try rfl);simp only [zp,zq,z0,z1])|((with_reducible apply Qae hp);exact zt rfl;exact za rfl;exact rfl;(exact AggTy.size);exact rfl;exact ii;(simp only [n0,Nat.reduceAdd,nn];try rfl);(exact zl rfl);exact rfl;exact ii;clear hp;(try clear w1);intro w1 hp)|((with_reducible first|refine Qaf hp (A1.out _) ?_|refine Qaf hp (A2.out _) ?_);clear hp;(try clear w1);intro w1 hp))
    exact bodyPost_ret (Qan rfl ⟨_,rfl,Qac hp (Nat.le_of_ble_eq_true rfl)⟩ rfl) rfl ⟨rfl,hp.keep⟩
  cases f4
  · obtain rfl : v = .agg #[.int .u64 0,.int .u64 0,.int .u64 0,.int .u64 0,.int .u64 0,.int .u64 0,.int .u64 0,.int .u64 0] := hv
    obtain rfl : o = false := ho
    go_wp2_with (first|((with_reducible refine Qge ?_);(conv => whnf);refine Bx.mk ?_;(try simp only [zp,zq,z0,z1]))|((with_reducible apply Qag hp);exact ii;exact rfl;clear hp;(try clear w1);intro g w1 hp;simp only [zp,zq,z0,z1])|((with_reducible apply Qab hp);exact zt rfl;exact ii;exact ii;(exact zl rfl);(simp only [n0,Nat.reduceAdd,nn];try rfl);simp only [zp,zq,z0,z1])|((with_reducible apply Qae hp);exact zt rfl;exact za rfl;exact rfl;(exact AggTy.size);exact rfl;exact ii;(simp only [n0,Nat.reduceAdd,nn];try rfl);(exact zl rfl);exact rfl;exact ii;clear hp;(try clear w1);intro w1 hp)|((with_reducible first|refine Qaf hp (A1.out _) ?_|refine Qaf hp (A2.out _) ?_);clear hp;(try clear w1);intro w1 hp))
    exact bodyPost_ret (Qan rfl ⟨_,rfl,Qac hp (Nat.le_of_ble_eq_true rfl)⟩ rfl) rfl ⟨rfl,hp.keep⟩
  cases f5
  · obtain rfl : v = .agg #[.int .u64 0,.int .u64 0,.int .u64 0,.int .u64 0,.int .u64 0,.int .u64 0,.int .u64 0,.int .u64 0] := hv
    obtain rfl : o = false := ho
    go_wp2_with (first|((with_reducible refine Qge ?_);(conv => whnf);refine Bx.mk ?_;(try simp only [zp,zq,z0,z1]))|((with_reducible apply Qag hp);exact ii;exact rfl;clear hp;(try clear w1);intro g w1 hp;simp only [zp,zq,z0,z1])|((with_reducible apply Qab hp);exact zt rfl;exact ii;exact ii;(exact zl rfl);(simp only [n0,Nat.reduceAdd,nn];try rfl);simp only [zp,zq,z0,z1])|((with_reducible apply Qae hp);exact zt rfl;exact za rfl;exact rfl;(exact AggTy.size);exact rfl;exact ii;(simp only [n0,Nat.reduceAdd,nn];try rfl);(exact zl rfl);exact rfl;exact ii;clear hp;(try clear w1);intro w1 hp)|((with_reducible first|refine Qaf hp (A1.out _) ?_|refine Qaf hp (A2.out _) ?_);clear hp;(try clear w1);intro w1 hp))
    exact bodyPost_ret (Qan rfl ⟨_,rfl,Qac hp (Nat.le_of_ble_eq_true rfl)⟩ rfl) rfl ⟨rfl,hp.keep⟩
  · obtain rfl : v = W t := hv
    obtain rfl : o = true := ho
    go_wp2_with (first|((with_reducible refine Qge ?_);(conv => whnf);refine Bx.mk ?_;(try simp only [zp,zq,z0,z1]))|((with_reducible apply Qag hp);exact ii;exact rfl;clear hp;(try clear w1);intro g w1 hp;simp only [zp,zq,z0,z1])|((with_reducible apply Qab hp);exact zt rfl;exact ii;exact ii;(exact zl rfl);(simp only [n0,Nat.reduceAdd,nn];try rfl);simp only [zp,zq,z0,z1])|((with_reducible apply Qae hp);exact zt rfl;exact za rfl;exact rfl;(exact AggTy.size);exact rfl;exact ii;(simp only [n0,Nat.reduceAdd,nn];try rfl);(exact zl rfl);exact rfl;exact ii;clear hp;(try clear w1);intro w1 hp)|((with_reducible first|refine Qaf hp (A1.out _) ?_|refine Qaf hp (A2.out _) ?_);clear hp;(try clear w1);intro w1 hp))
    exact bodyPost_ret (Qan rfl ⟨_,rfl,Qac hp (Nat.le_of_ble_eq_true rfl)⟩ rfl) rfl ⟨rfl,hp.keep⟩
theorem Qbx (n : Int) : Fit (fz n) := by
  unfold fz
  split
  · assumption
  · exact Qbp
theorem ralong_num (a b c : Int) : (((if Fit a ∧ Fit a then some a else none).bind fun s => if Fit b ∧ Fit (s + b) then some (s + b) else none).bind fun s => if Fit c ∧ Fit (s + c) then some (s + c) else none).getD 0 =
    if decide (Fit a) && (decide (Fit b) && (decide (Fit c) && (decide (Fit (fz a + fz b)) && decide (Fit (fz (fz a + fz b) + fz c))))) then fz (fz (fz a + fz b) + fz c) else 0 := by
  by_cases h1 : Fit a
  · by_cases h2 : Fit b
    · by_cases h3 : Fit c
      · by_cases h4 : Fit (a + b)
        · by_cases h5 : Fit (a + b + c)
          · simp [fz,h1,h2,h3,h4,h5]
          · simp [fz,h1,h2,h3,h4,h5]
        · simp [fz,h1,h2,h3,h4]
      · by_cases h4 : Fit (a + b)
        · simp [fz,h1,h2,h3,h4]
        · simp [fz,h1,h2,h3,h4]
    · simp [h1,h2]
  · simp [h1]
theorem ralong_ok (a b c : Int) : (((if Fit a ∧ Fit a then some a else none).bind fun s => if Fit b ∧ Fit (s + b) then some (s + b) else none).bind fun s => if Fit c ∧ Fit (s + c) then some (s + c) else none).isSome =
    (decide (Fit a) && (decide (Fit b) && (decide (Fit c) && (decide (Fit (fz a + fz b)) && decide (Fit (fz (fz a + fz b) + fz c)))))) := by
  by_cases h1 : Fit a
  · by_cases h2 : Fit b
    · by_cases h3 : Fit c
      · by_cases h4 : Fit (a + b)
        · by_cases h5 : Fit (a + b + c)
          · simp [fz,h1,h2,h3,h4,h5]
          · simp [fz,h1,h2,h3,h4,h5]
        · simp [fz,h1,h2,h3,h4]
      · by_cases h4 : Fit (a + b)
        · simp [fz,h1,h2,h3,h4]
        · simp [fz,h1,h2,h3,h4]
    · simp [h1,h2]
  · simp [h1]
theorem ralong_any (x y z p q r : Int) (hx : Fit x) (hy : Fit y) (hz : Fit z) (hp : I64 p) (hq : I64 q) (hr : I64 r) (w : World) : Calls Tryz.prog 71 #[Sv x y z,Pv p q r] w
    (Ret (.tuple #[W ((acc (nth x y z) (nth p q r) [0,1,2]).getD 0),.bool (acc (nth x y z) (nth p q r) [0,1,2]).isSome]) w) := by
  refine ralong_core x y z p q r (fz (x * p)) (fz (y * q)) (fz (z * r)) (fz (fz (x * p) + fz (y * q))) (fz (fz (fz (x * p) + fz (y * q)) + fz (z * r))) _
    (decide (Fit (x * p))) (decide (Fit (y * q))) (decide (Fit (z * r))) (decide (Fit (fz (x * p) + fz (y * q)))) (decide (Fit (fz (fz (x * p) + fz (y * q)) + fz (z * r)))) _ ?_ ?_
    (Lib.hid fun w => Qcw p hp w) (Lib.hid fun w => Qcw q hq w) (Lib.hid fun w => Qcw r hr w)
    (Lib.hid fun w => Qit _ _ hx (Qdj hp) w) (Lib.hid fun w => Qit _ _ hy (Qdj hq) w) (Lib.hid fun w => Qit _ _ hz (Qdj hr) w)
    (Lib.hid fun w => Qnk _ _ (Qbx _) (Qbx _) w) (Lib.hid fun w => Qnk _ _ (Qbx _) (Qbx _) w) w
  · simp only [acc,List.foldl_cons,List.foldl_nil,step,nth,Option.bind_some,Int.zero_add]
    refine (congrArg W (ralong_num _ _ _)).trans ?_
    split
    · rfl
    · exact Qfe
  · simp only [acc,List.foldl_cons,List.foldl_nil,step,nth,Option.bind_some,Int.zero_add]
    exact ralong_ok _ _ _
end Go.Proofs.YtdfdmeoalbpcdaaGreat
