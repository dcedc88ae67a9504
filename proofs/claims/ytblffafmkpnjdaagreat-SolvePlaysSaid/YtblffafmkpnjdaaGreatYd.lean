/-
  Package fix: over [down], Div, Clamp; package rows: Aim (contracts).
  Package rows: less; package mat: Apply (contracts).
  Package rows: axis (contract).
  Package rows: axis, Frame, Resist, Between (contracts).
-/
import Derived.Test.YtblffafmkpnjdaaGreatVk
import Derived.Test.YtblffafmkpnjdaaGreatVb
import Derived.Test.YtblffafmkpnjdaaGreatPd
import Derived.Test.YtblffafmkpnjdaaGreatSg
import Derived.WalkMore
import Derived.ScopeJumps
set_option linter.unusedSimpArgs false
set_option linter.unusedVariables false
set_option maxRecDepth 100000
namespace Go.Proofs.YtblffafmkpnjdaaGreat
open Go Go.RowKit
attribute [local irreducible] wpList
theorem run_minR {P : Program} (ts : Array TypeId) (t : TypeId) (a b m : Int) (h : m = if b < a then b else a) : ∀ w,(Builtin.min_ ts t #[.int .i64 a,.int .i64 b]).run P w = .ok (.int .i64 m) w := by
  intro w
  subst h
  simp [Builtin.min_,Builtin.min2]
/-- A clamped number. -/
def Qdf (a l h : Int) : Int := if a < l then l else if h < a then h else a
set_option maxHeartbeats 1000000 in
theorem fclamp_any (a l h : Int) (w : World) : Calls Tryz.prog 72 #[.int .i64 a,.int .i64 l,.int .i64 h] w (Ret (.int .i64 (Qdf a l h)) w) := by
  unfold Qdf
  have hmn := run_minR (P := Tryz.prog) #[22,22] 22 a h _ rfl
  generalize (if h < a then h else a) = m at *
  by_cases h1 : a < l
  · rw [if_pos h1]
    clear hmn
    go_enter Tryz.func72,Tryz.ntmps72
    have hp := Hp.start [] w
    go_wp2_with (first
          | fail)
    exact bodyPost_ret (Qaf rfl rfl) rfl ⟨rfl,hp.keep⟩
  · rw [if_neg h1]
    go_enter Tryz.func72,Tryz.ntmps72
    have hp := Hp.start [] w
    go_wp2_with (first
          | fail)
    exact bodyPost_ret (Qaf rfl rfl) rfl ⟨rfl,hp.keep⟩
end Go.Proofs.YtblffafmkpnjdaaGreat
set_option linter.unusedSimpArgs false
set_option linter.unusedVariables false
set_option maxRecDepth 100000
namespace Go.Proofs.YtblffafmkpnjdaaGreat
open Go Go.RowKit
attribute [local irreducible] wpList
/-- A matrix of three rows, and what it makes of a vector. -/
abbrev MV (p q r : P3) : Value := .agg #[.int .i64 p.x,.int .i64 p.y,.int .i64 p.z,.int .i64 q.x,.int .i64 q.y,.int .i64 q.z,.int .i64 r.x,.int .i64 r.y,.int .i64 r.z]
def P3.cdot (a b : P3) : Int := cl (a.dot b / 4294967296)
set_option maxHeartbeats 2000000 in
theorem apply_any (p q r v : P3) (hp' : p.i64) (hq : q.i64) (hr : r.i64) (hv : v.i64) (w : World) : Calls Tryz.prog 31 #[MV p q r,PV v] w (Ret (PV ⟨p.cdot v,q.cdot v,r.cdot v⟩) w) := by
  have D1 := Lib.hid (Qgv p v hp' hv)
  have D2 := Lib.hid (Qgv q v hq hv)
  have D3 := Lib.hid (Qgv r v hr hv)
  clear hp' hq hr hv
  unfold P3.cdot
  generalize cl (p.dot v / 4294967296) = x at *
  generalize cl (q.dot v / 4294967296) = y at *
  generalize cl (r.dot v / 4294967296) = e at *
  go_enter Tryz.func31,Tryz.ntmps31
  have hp := Hp.start [] w
  go_upto_region 1 with (first | ((with_reducible apply Qao hp);(first | exact za rfl | exact zu rfl | exact zi rfl | exact zb rfl | exact zr rfl | exact zs rfl | exact zf rfl | exact zg rfl | exact zn rfl | exact zv rfl | exact zw rfl);exact rfl;clear hp;(try clear w1);intro g w1 hp;simp only [zp,zq,z0,z1]) | ((with_reducible apply Qag hp);exact ii;exact rfl;clear hp;(try clear w1);intro g w1 hp;simp only [zp,zq,z0,z1]))
  have hq := hp
  refine Qau hp hq [16] (.q 0 (.q 1 (.q 2 (.q 3 (.q 5 (.q 6 (.q 7 (.q 8 (.q 10 (.q 11 (.q 12 (.q 13 (.p 4 (.p 9 (.p 14 (.q 15 (.l 16 .nil))))))))))))))))) (by kernel_rfl) (by kernel_rfl) ?_
  clear hp hq;(try clear w1);intro w1 hp hq
  repeat' (first | (((with_reducible apply sg_q);exact zo rfl);(first | ((with_reducible apply Qbg hp);exact rfl;exact zt rfl;exact ii;exact ii;(first | exact zl rfl | exact Qad (by omega));(first | (with_reducible exact Qab (by omega)) | (simp only [n0,Nat.reduceAdd,n1,n2,n3,n4,n5,n6,n7,n8,n9];try rfl));simp only [zp,zq,z0,z1]) | ((with_reducible apply Qci hp);exact rfl;exact zx rfl;exact zk rfl;exact ii;exact Sz.z;omega;omega;((try simp only [m0,Int.reduceToNat,m1,m2,Nat.reduceMul,Nat.reduceAdd,m3,m4,m5,n0]);exact rfl);simp only [zp,zq,z0,z1]) | ((with_reducible apply Qbm hp);exact rfl;(focus (intro _;go_simp;(try go_ints);try with_reducible rfl));simp only [zp,zq,z0,z1]))) | (((with_reducible apply sg_p);exact zo rfl);((with_reducible apply Qbp hp);exact rfl;(focus (intro _;go_simp;try first | with_reducible rfl | exact ⟨rfl,rfl⟩));(with_reducible first | exact fun w => D1.out w | exact fun w => D2.out w | exact fun w => D3.out w);simp only [zp,zq,z0,z1])) | (((with_reducible apply sg_l);exact zo rfl);(first | ((with_reducible apply Qbi hq);exact rfl;exact zt rfl;(first | exact za rfl | exact zu rfl | exact zi rfl | exact zb rfl | exact zr rfl | exact zs rfl | exact zf rfl | exact zg rfl | exact zn rfl | exact zv rfl | exact zw rfl);exact rfl;exact Sz.z;exact rfl;exact ii;(first | (with_reducible exact Qab (by omega)) | (simp only [n0,Nat.reduceAdd,n1,n2,n3,n4,n5,n6,n7,n8,n9];try rfl));(first | exact zl rfl | exact Qad (by omega));exact rfl;exact ii;(repeat (first | exact List.Sublist.refl _ | apply List.Sublist.cons));clear hp hq;(try clear w1);intro w1 hp hq) | ((with_reducible apply Qcg hq);exact rfl;exact zt rfl;(first | exact za rfl | exact zu rfl | exact zi rfl | exact zb rfl | exact zr rfl | exact zs rfl | exact zf rfl | exact zg rfl | exact zn rfl | exact zv rfl | exact zw rfl);exact rfl;exact Sz.z;exact rfl;exact ii;(first | (with_reducible exact Qab (by omega)) | (simp only [n0,Nat.reduceAdd,n1,n2,n3,n4,n5,n6,n7,n8,n9];try rfl));(first | exact zl rfl | exact Qad (by omega));exact rfl;exact ii;exact rfl;clear hp hq;(try clear w1);intro w1 hq;have hp := True.intro))) | ((with_reducible apply Qbt hq);clear hp hq;(try clear w1);intro w1 hp))
  go_wp2
  exact bodyPost_ret (Qaf rfl ⟨_,rfl,Qal hp (Nat.le_of_ble_eq_true rfl)⟩) rfl ⟨rfl,hp.keep⟩
end Go.Proofs.YtblffafmkpnjdaaGreat
set_option linter.unusedSimpArgs false
set_option linter.unusedVariables false
set_option maxRecDepth 100000
namespace Go.Proofs.YtblffafmkpnjdaaGreat
open Go Go.RowKit
attribute [local irreducible] wpList
end Go.Proofs.YtblffafmkpnjdaaGreat
set_option linter.unusedSimpArgs false
set_option linter.unusedVariables false
set_option maxRecDepth 100000
namespace Go.Proofs.YtblffafmkpnjdaaGreat
open Go Go.RowKit
attribute [local irreducible] wpList
theorem Qnb (a b : P3) : (a.ccross b).i64 := ⟨Qbu _,Qbu _,Qbu _⟩
theorem Qgp (a b : P3) : I64 (a.cdot b) := Qbu _
/-- A body as what resists: its mass, the three rows of its matrix, its speeds. -/
structure Inr where
  m : Int
  p : P3
  q : P3
  r : P3
  v : P3
  s : P3
abbrev NV (b : Inr) : Value := .agg #[.int .i64 b.m,.int .i64 b.p.x,.int .i64 b.p.y,.int .i64 b.p.z,.int .i64 b.q.x,.int .i64 b.q.y,.int .i64 b.q.z,.int .i64 b.r.x,.int .i64 b.r.y,.int .i64 b.r.z,.int .i64 b.v.x,.int .i64 b.v.y,.int .i64 b.v.z,.int .i64 b.s.x,.int .i64 b.s.y,.int .i64 b.s.z]
def Inr.i64 (b : Inr) : Prop := I64 b.m ∧ b.p.i64 ∧ b.q.i64 ∧ b.r.i64 ∧ b.v.i64 ∧ b.s.i64
end Go.Proofs.YtblffafmkpnjdaaGreat
