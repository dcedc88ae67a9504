/-
  Package fix: over [down], Div, Clamp; package rows: Aim (contracts).
  Package rows: less; package mat: Apply (contracts).
  Package rows: axis (contract).
  Package rows: axis, Frame, Resist, Between (contracts).
-/
import Derived.Test.YtblffafmkpnjdaaVk
import Derived.Test.YtblffafmkpnjdaaVb
import Derived.Test.YtblffafmkpnjdaaPd
import Derived.Test.YtblffafmkpnjdaaSg
import Derived.WalkMore
import Derived.ScopeJumps
set_option linter.unusedSimpArgs false
set_option linter.unusedVariables false
set_option maxRecDepth 100000
namespace Go.Proofs.Ytblffafmkpnjdaa
open Go Go.RowKit
attribute [local irreducible] wpList

theorem run_minR {P : Program} (ts : Array TypeId) (t : TypeId) (a b m : Int) (h : m = if b < a then b else a) : ∀ w, (Builtin.min_ ts t #[.int .i64 a, .int .i64 b]).run P w = .ok (.int .i64 m) w := by
  intro w
  subst h
  simp [Builtin.min_, Builtin.min2]
/-- What a quotient of two numbers comes to. -/
def dq (a b : Int) : Int := if b = 0 then (if 0 < a then 9223372036854775807 else if a < 0 then -9223372036854775808 else 0) else cl (dvq (a * 4294967296) b)
theorem dq_i64 (a b : Int) : I64 (dq a b) := by
  unfold dq
  split
  · unfold I64
    split
    · omega
    · split <;> omega
  · exact cl_i64 _
/-- A clamped number. -/
def clampv (a l h : Int) : Int := if a < l then l else if h < a then h else a
set_option maxHeartbeats 1000000 in
theorem fclamp_any (a l h : Int) (w : World) : Calls Try.prog 79 #[.int .i64 a, .int .i64 l, .int .i64 h] w (Ret (.int .i64 (clampv a l h)) w) := by
  unfold clampv
  have hmn := run_minR (P := Try.prog) #[29, 29] 29 a h _ rfl
  generalize (if h < a then h else a) = m at *
  by_cases h1 : a < l
  · rw [if_pos h1]
    clear hmn
    go_enter Try.func79, Try.ntmps79
    have hp := Hp.start [] w
    go_wp2_with (first
          | fail)
    exact bodyPost_ret (results_one rfl rfl) rfl ⟨rfl, hp.keep⟩
  · rw [if_neg h1]
    go_enter Try.func79, Try.ntmps79
    have hp := Hp.start [] w
    go_wp2_with (first
          | fail)
    exact bodyPost_ret (results_one rfl rfl) rfl ⟨rfl, hp.keep⟩
/-- The speed that a gap asks for, and the answer. -/
def aimv (gap t : Int) : Int := clampv (if gap < 0 then (if 8589934592 < dq (cl (0 - gap)) (cl (34359738368 * t / 4294967296)) then 8589934592 else dq (cl (0 - gap)) (cl (34359738368 * t / 4294967296))) else cl (0 - dq gap t)) (-1099511627776) 1099511627776
def aimO (gap t : Int) : Int × Int := if t ≤ 0 then (0, 2) else (aimv gap t, 0)
end Go.Proofs.Ytblffafmkpnjdaa
set_option linter.unusedSimpArgs false
set_option linter.unusedVariables false
set_option maxRecDepth 100000
namespace Go.Proofs.Ytblffafmkpnjdaa
open Go Go.RowKit
attribute [local irreducible] wpList

theorem u64_pos {a : Int} (h : I64 a) (h0 : ¬ a < 0) : IntKind.u64.wrap a = a.natAbs := by
  unfold I64 at h
  simp only [IntKind.wrap_u64]
  omega
theorem u64_neg {a : Int} (h : I64 a) (h0 : a < 0) : IntKind.u64.wrap (-IntKind.u64.wrap a) = a.natAbs := by
  unfold I64 at h
  simp only [IntKind.wrap_u64]
  omega
/-- A matrix of three rows, and what it makes of a vector. -/
abbrev MV (p q r : P3) : Value := .agg #[.int .i64 p.x, .int .i64 p.y, .int .i64 p.z, .int .i64 q.x, .int .i64 q.y, .int .i64 q.z, .int .i64 r.x, .int .i64 r.y, .int .i64 r.z]
def P3.cdot (a b : P3) : Int := cl (a.dot b / 4294967296)
set_option maxHeartbeats 2000000 in
theorem apply_any (p q r v : P3) (hp' : p.i64) (hq : q.i64) (hr : r.i64) (hv : v.i64) (w : World) : Calls Try.prog 50 #[MV p q r, PV v] w (Ret (PV ⟨p.cdot v, q.cdot v, r.cdot v⟩) w) := by
  have D1 := Lib.hid (vDot_any p v hp' hv)
  have D2 := Lib.hid (vDot_any q v hq hv)
  have D3 := Lib.hid (vDot_any r v hr hv)
  clear hp' hq hr hv
  unfold P3.cdot
  generalize cl (p.dot v / 4294967296) = x at *
  generalize cl (q.dot v / 4294967296) = y at *
  generalize cl (r.dot v / 4294967296) = e at *
  go_enter Try.func50, Try.ntmps50
  have hp := Hp.start [] w
  go_upto_region 1 with (first
          | ((with_reducible apply sx_box hp); (first | exact za rfl | exact zu rfl | exact zi rfl | exact zb rfl | exact zr rfl | exact zs rfl | exact zf rfl | exact zg rfl | exact zn rfl | exact zv rfl | exact zw rfl); exact rfl; clear hp; (try clear w1); intro g w1 hp; simp only [zp, zq, z0, z1])
          | ((with_reducible apply sx_alloc hp); infer_instance; exact rfl; clear hp; (try clear w1); intro g w1 hp; simp only [zp, zq, z0, z1]))
  have hq := hp
  refine wp_drawnG_hp hp hq [16] (.q 0 (.q 1 (.q 2 (.q 3 (.q 5 (.q 6 (.q 7 (.q 8 (.q 10 (.q 11 (.q 12 (.q 13 (.p 4 (.p 9 (.p 14 (.q 15 (.l 16 .nil))))))))))))))))) (by kernel_rfl) (by kernel_rfl) ?_
  clear hp hq; (try clear w1); intro w1 hp hq
  repeat' (first
    | (((with_reducible apply sg_q); exact zo rfl); (first
        | ((with_reducible apply sg_load_agg hp); exact rfl; exact zt rfl; infer_instance; infer_instance; (first | exact zl rfl | exact LB_le (by omega)); (first | (with_reducible exact LB_set (by omega)) | (simp only [n0, Nat.reduceAdd, n1, n2, n3, n4, n5, n6, n7, n8, n9]; try rfl)); simp only [zp, zq, z0, z1])
        | ((with_reducible apply sg_indexAddr hp); exact rfl; exact zx rfl; exact zk rfl; infer_instance; (first | exact AggTy.size | exact OneTy.size); omega; omega; ((try simp only [m0, Int.reduceToNat, m1, m2, Nat.reduceMul, Nat.reduceAdd, m3, m4, m5, n0]); exact rfl); simp only [zp, zq, z0, z1])
        | ((with_reducible apply sg_pure hp); exact rfl; (focus (intro _; go_simp; (try go_ints); try with_reducible rfl)); simp only [zp, zq, z0, z1])))
    | (((with_reducible apply sg_p); exact zo rfl); ((with_reducible apply sg_call hp); exact rfl; (focus (intro _; go_simp; try first | with_reducible rfl | exact ⟨rfl, rfl⟩)); (with_reducible first | exact fun w => D1.out w | exact fun w => D2.out w | exact fun w => D3.out w); simp only [zp, zq, z0, z1]))
    | (((with_reducible apply sg_l); exact zo rfl); (first
        | ((with_reducible apply sg_store_far hq); exact rfl; exact zt rfl; (first | exact za rfl | exact zu rfl | exact zi rfl | exact zb rfl | exact zr rfl | exact zs rfl | exact zf rfl | exact zg rfl | exact zn rfl | exact zv rfl | exact zw rfl); exact rfl; (first | exact AggTy.size | exact OneTy.size); exact rfl; infer_instance; (first | (with_reducible exact LB_set (by omega)) | (simp only [n0, Nat.reduceAdd, n1, n2, n3, n4, n5, n6, n7, n8, n9]; try rfl)); (first | exact zl rfl | exact LB_le (by omega)); exact rfl; infer_instance; (repeat (first | exact List.Sublist.refl _ | apply List.Sublist.cons)); clear hp hq; (try clear w1); intro w1 hp hq)
        | ((with_reducible apply sg_store hq); exact rfl; exact zt rfl; (first | exact za rfl | exact zu rfl | exact zi rfl | exact zb rfl | exact zr rfl | exact zs rfl | exact zf rfl | exact zg rfl | exact zn rfl | exact zv rfl | exact zw rfl); exact rfl; (first | exact AggTy.size | exact OneTy.size); exact rfl; infer_instance; (first | (with_reducible exact LB_set (by omega)) | (simp only [n0, Nat.reduceAdd, n1, n2, n3, n4, n5, n6, n7, n8, n9]; try rfl)); (first | exact zl rfl | exact LB_le (by omega)); exact rfl; infer_instance; exact rfl; clear hp hq; (try clear w1); intro w1 hq; have hp := True.intro)))
    | ((with_reducible apply sg_nil hq); clear hp hq; (try clear w1); intro w1 hp))
  go_wp2
  exact bodyPost_ret (results_one rfl ⟨_, rfl, run_load_agg hp (Nat.le_of_ble_eq_true rfl)⟩) rfl ⟨rfl, hp.keep⟩
end Go.Proofs.Ytblffafmkpnjdaa
set_option linter.unusedSimpArgs false
set_option linter.unusedVariables false
set_option maxRecDepth 100000
namespace Go.Proofs.Ytblffafmkpnjdaa
open Go Go.RowKit
attribute [local irreducible] wpList

end Go.Proofs.Ytblffafmkpnjdaa
set_option linter.unusedSimpArgs false
set_option linter.unusedVariables false
set_option maxRecDepth 100000
namespace Go.Proofs.Ytblffafmkpnjdaa
open Go Go.RowKit
attribute [local irreducible] wpList

/-- The axis along which a direction has the least. -/
def axv (n : P3) : P3 := if n.x.natAbs ≤ n.y.natAbs ∧ n.x.natAbs ≤ n.z.natAbs then ⟨4294967296, 0, 0⟩ else if n.y.natAbs ≤ n.z.natAbs then ⟨0, 4294967296, 0⟩ else ⟨0, 0, 4294967296⟩
theorem axv_i64 (n : P3) : (axv n).i64 := by
  unfold axv P3.i64 I64
  split
  · dsimp only; omega
  · split <;> (dsimp only; omega)
theorem ccr_i64 (a b : P3) : (a.ccross b).i64 := ⟨cl_i64 _, cl_i64 _, cl_i64 _⟩
theorem cdot_i64 (a b : P3) : I64 (a.cdot b) := cl_i64 _
/-- A body as what resists: its mass, the three rows of its matrix, its speeds. -/
structure Inr where
  m : Int
  p : P3
  q : P3
  r : P3
  v : P3
  s : P3
abbrev NV (b : Inr) : Value := .agg #[.int .i64 b.m, .int .i64 b.p.x, .int .i64 b.p.y, .int .i64 b.p.z, .int .i64 b.q.x, .int .i64 b.q.y, .int .i64 b.q.z, .int .i64 b.r.x, .int .i64 b.r.y, .int .i64 b.r.z, .int .i64 b.v.x, .int .i64 b.v.y, .int .i64 b.v.z, .int .i64 b.s.x, .int .i64 b.s.y, .int .i64 b.s.z]
def Inr.i64 (b : Inr) : Prop := I64 b.m ∧ b.p.i64 ∧ b.q.i64 ∧ b.r.i64 ∧ b.v.i64 ∧ b.s.i64
def resv (b : Inr) (r d : P3) : Int := cl (b.m + d.cdot (P3.ccross ⟨b.p.cdot (r.ccross d), b.q.cdot (r.ccross d), b.r.cdot (r.ccross d)⟩ r))
def btw (a b : Inr) (ra rb d : P3) : Int := if cl (resv a ra d + resv b rb d) ≤ 0 then 0 else dq 4294967296 (cl (resv a ra d + resv b rb d))
theorem resv_i64 (b : Inr) (r d : P3) : I64 (resv b r d) := cl_i64 _
end Go.Proofs.Ytblffafmkpnjdaa
