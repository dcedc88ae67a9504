/-
  Package fix: over [down], Div, Clamp; package rows: Aim (contracts).
  Package rows: less; package mat: Apply (contracts).
  Package rows: axis (contract).
  Package rows: axis, Frame, Resist, Between (contracts).
-/
import Derived.Test.YtboiepagonlnkaaVk
import Derived.Test.YtboiepagonlnkaaVb
import Derived.Test.YtboiepagonlnkaaPd
import Derived.Test.YtboiepagonlnkaaSg
import Derived.WalkMore
import Derived.ScopeJumps
set_option linter.unusedSimpArgs false
set_option linter.unusedVariables false
set_option maxRecDepth 100000
namespace Go.Proofs.Ytboiepagonlnkaa
open Go Go.RowKit
attribute [local irreducible] wpList

theorem run_minR {P : Program} (ts : Array TypeId) (t : TypeId) (a b m : Int) (h : m = if b < a then b else a) : ∀ w, (Builtin.min_ ts t #[.int .i64 a, .int .i64 b]).run P w = .ok (.int .i64 m) w := by
  intro w
  subst h
  simp [Builtin.min_, Builtin.min2]
/-- What a quotient of two numbers comes to. -/
def dq (a b : Int) : Int := if b = 0 then (if 0 < a then 9223372036854775807 else if a < 0 then -9223372036854775808 else 0) else cl (dvq (a * 4294967296) b)
theorem dq_i64 (a b : Int) : I64 (dq a b) := by
  unfold dq
  split
  · unfold I64
    split
    · omega
    · split <;> omega
  · exact cl_i64 _
set_option maxHeartbeats 2000000 in
theorem fover_down (a b : Int) (ha : I64 a) (hb : I64 b) (w : World) : Calls Try.prog 36 #[.int .i64 a, .int .i64 b] w (Ret (.int .i64 (dq a b)) w) := by
  unfold dq
  by_cases hb0 : b = 0
  · rw [if_pos hb0]
    subst hb0
    by_cases h1 : 0 < a
    · rw [if_pos h1]
      clear ha hb
      go_enter Try.func36, Try.ntmps36
      have hp := Hp.start [] w
      go_wp2_with (first
          | ((with_reducible apply sx_alloc hp); infer_instance; exact rfl; clear hp; (try clear w1); intro g w1 hp; simp only [zp, zq, z0, z1])
          | ((with_reducible apply sx_load_agg hp); exact zt rfl; infer_instance; infer_instance; (first | exact zl rfl | exact LB_le (by omega)); (first | (with_reducible exact LB_set (by omega)) | (simp only [n0, Nat.reduceAdd, n1, n2, n3, n4, n5, n6, n7, n8, n9]; try rfl)); simp only [zp, zq, z0, z1])
          | ((with_reducible apply sx_store hp); exact zt rfl; exact za rfl; exact rfl; (first | exact AggTy.size | exact OneTy.size); exact rfl; infer_instance; (first | (with_reducible exact LB_set (by omega)) | (simp only [n0, Nat.reduceAdd, n1, n2, n3, n4, n5, n6, n7, n8, n9]; try rfl)); (first | exact zl rfl | exact LB_le (by omega)); exact rfl; infer_instance; clear hp; (try clear w1); intro w1 hp))
      exact bodyPost_ret (results_one rfl rfl) rfl ⟨rfl, hp.keep⟩
    · by_cases h2 : a < 0
      · rw [if_neg h1, if_pos h2]
        clear ha hb
        go_enter Try.func36, Try.ntmps36
        have hp := Hp.start [] w
        go_wp2_with (first
          | ((with_reducible apply sx_alloc hp); infer_instance; exact rfl; clear hp; (try clear w1); intro g w1 hp; simp only [zp, zq, z0, z1])
          | ((with_reducible apply sx_load_agg hp); exact zt rfl; infer_instance; infer_instance; (first | exact zl rfl | exact LB_le (by omega)); (first | (with_reducible exact LB_set (by omega)) | (simp only [n0, Nat.reduceAdd, n1, n2, n3, n4, n5, n6, n7, n8, n9]; try rfl)); simp only [zp, zq, z0, z1])
          | ((with_reducible apply sx_store hp); exact zt rfl; exact za rfl; exact rfl; (first | exact AggTy.size | exact OneTy.size); exact rfl; infer_instance; (first | (with_reducible exact LB_set (by omega)) | (simp only [n0, Nat.reduceAdd, n1, n2, n3, n4, n5, n6, n7, n8, n9]; try rfl)); (first | exact zl rfl | exact LB_le (by omega)); exact rfl; infer_instance; clear hp; (try clear w1); intro w1 hp))
        exact bodyPost_ret (results_one rfl rfl) rfl ⟨rfl, hp.keep⟩
      · rw [if_neg h1, if_neg h2]
        clear ha hb
        go_enter Try.func36, Try.ntmps36
        have hp := Hp.start [] w
        go_wp2_with (first
          | ((with_reducible apply sx_alloc hp); infer_instance; exact rfl; clear hp; (try clear w1); intro g w1 hp; simp only [zp, zq, z0, z1])
          | ((with_reducible apply sx_load_agg hp); exact zt rfl; infer_instance; infer_instance; (first | exact zl rfl | exact LB_le (by omega)); (first | (with_reducible exact LB_set (by omega)) | (simp only [n0, Nat.reduceAdd, n1, n2, n3, n4, n5, n6, n7, n8, n9]; try rfl)); simp only [zp, zq, z0, z1])
          | ((with_reducible apply sx_store hp); exact zt rfl; exact za rfl; exact rfl; (first | exact AggTy.size | exact OneTy.size); exact rfl; infer_instance; (first | (with_reducible exact LB_set (by omega)) | (simp only [n0, Nat.reduceAdd, n1, n2, n3, n4, n5, n6, n7, n8, n9]; try rfl)); (first | exact zl rfl | exact LB_le (by omega)); exact rfl; infer_instance; clear hp; (try clear w1); intro w1 hp))
        exact bodyPost_ret (results_one rfl rfl) rfl ⟨rfl, hp.keep⟩
  · rw [if_neg hb0]
    have A1 := Lib.hid (fraw_any a ha)
    have A2 := Lib.hid (fraw_any b hb)
    have hx1 : -39614081257132168796771975168 ≤ a * 4294967296 ∧ a * 4294967296 ≤ 39614081257132168796771975168 := by unfold I64 at ha; omega
    have hp2 : (2 : Int) ^ (32 : Int).toNat = 4294967296 := rfl
    have hok : shok a 32 := ⟨by omega, .inr ⟨by omega, by rw [hp2]; unfold Fit M511; omega⟩⟩
    have hsh := shl_any a 32 (fit_i64 ha)
    rw [show shlv a 32 = a * 4294967296 by unfold shlv; rw [if_pos hok, hp2], decide_eq_true hok] at hsh
    have SH := Lib.hid hsh
    have hq := fquot_down (a * 4294967296) b (by unfold Fit M511; omega) (fit_i64 hb)
    have A4 := Lib.hid hq
    have A5 := Lib.hid fun w => within_any _ (dvq_fit (a * 4294967296) b) w
    have hb1 : (b == 0) = false := by simpa using hb0
    clear ha hb hx1 hp2 hok hsh hq
    generalize a * 4294967296 = n at *
    generalize dvq n b = q at *
    generalize cl q = r at *
    go_enter Try.func36, Try.ntmps36
    have hp := Hp.start [] w
    go_upto_region 8 with (first
          | ((with_reducible apply sx_alloc hp); infer_instance; exact rfl; clear hp; (try clear w1); intro g w1 hp; simp only [zp, zq, z0, z1])
          | ((with_reducible apply sx_load_agg hp); exact zt rfl; infer_instance; infer_instance; (first | exact zl rfl | exact LB_le (by omega)); (first | (with_reducible exact LB_set (by omega)) | (simp only [n0, Nat.reduceAdd, n1, n2, n3, n4, n5, n6, n7, n8, n9]; try rfl)); simp only [zp, zq, z0, z1])
          | ((with_reducible apply sx_store hp); exact zt rfl; exact za rfl; exact rfl; (first | exact AggTy.size | exact OneTy.size); exact rfl; infer_instance; (first | (with_reducible exact LB_set (by omega)) | (simp only [n0, Nat.reduceAdd, n1, n2, n3, n4, n5, n6, n7, n8, n9]; try rfl)); (first | exact zl rfl | exact LB_le (by omega)); exact rfl; infer_instance; clear hp; (try clear w1); intro w1 hp)
          | ((with_reducible first | refine sx_call hp (A1.out _) ?_ | refine sx_call hp (SH.out _) ?_); clear hp; (try clear w1); intro w1 hp))
    have hq := hp
    refine wp_drawnG_hp hp hq [] (.q 0 (.q 1 (.p 2 (.p 3 (.p 4 (.q 5 .nil)))))) (by kernel_rfl) (by kernel_rfl) ?_
    clear hp hq; (try clear w1); intro w1 hp hq
    repeat' (first
      | (((with_reducible apply sg_q); exact zo rfl); (first
          | ((with_reducible apply sg_load_agg hp); exact rfl; exact zt rfl; infer_instance; infer_instance; (first | exact zl rfl | exact LB_le (by omega)); (first | (with_reducible exact LB_set (by omega)) | (simp only [n0, Nat.reduceAdd, n1, n2, n3, n4, n5, n6, n7, n8, n9]; try rfl)); simp only [zp, zq, z0, z1])
          | ((with_reducible apply sg_move hp); exact zi rfl; simp only [zp, zq, z0, z1])
          | ((with_reducible apply sg_assign hp); exact zi rfl; simp only [zp, zq, z0, z1])
          | ((with_reducible apply sg_pure hp); exact rfl; (focus (intro _; go_simp; (try go_ints); try with_reducible rfl)); simp only [zp, zq, z0, z1])))
      | (((with_reducible apply sg_p); exact zo rfl); ((with_reducible apply sg_call hp); exact rfl; (focus (intro _; go_simp; try first | with_reducible rfl | exact ⟨rfl, rfl⟩)); (with_reducible first | exact fun w => A2.out w | exact fun w => A4.out w | exact fun w => A5.out w); simp only [zp, zq, z0, z1]))
      | ((with_reducible apply sg_nil hq); clear hp hq; (try clear w1); intro w1 hp))
    go_wp2
    exact bodyPost_ret (results_one rfl rfl) rfl ⟨rfl, hp.keep⟩
theorem fdiv_any (a b : Int) (ha : I64 a) (hb : I64 b) (w : World) : Calls Try.prog 13 #[.int .i64 a, .int .i64 b] w (Ret (.int .i64 (dq a b)) w) := by
  have A1 := Lib.hid (fover_down a b ha hb)
  clear ha hb
  generalize dq a b = r at *
  go_enter Try.func13, Try.ntmps13
  have hp := Hp.start [] w
  go_wp2_with (first
          | ((with_reducible refine sx_call hp (A1.out _) ?_); clear hp; (try clear w1); intro w1 hp))
  exact bodyPost_ret (results_one rfl rfl) rfl ⟨rfl, hp.keep⟩
/-- A clamped number. -/
def clampv (a l h : Int) : Int := if a < l then l else if h < a then h else a
set_option maxHeartbeats 1000000 in
theorem fclamp_any (a l h : Int) (w : World) : Calls Try.prog 40 #[.int .i64 a, .int .i64 l, .int .i64 h] w (Ret (.int .i64 (clampv a l h)) w) := by
  unfold clampv
  have hmn := run_minR (P := Try.prog) #[22, 22] 22 a h _ rfl
  generalize (if h < a then h else a) = m at *
  by_cases h1 : a < l
  · rw [if_pos h1]
    clear hmn
    go_enter Try.func40, Try.ntmps40
    have hp := Hp.start [] w
    go_wp2_with (first
          | fail)
    exact bodyPost_ret (results_one rfl rfl) rfl ⟨rfl, hp.keep⟩
  · rw [if_neg h1]
    go_enter Try.func40, Try.ntmps40
    have hp := Hp.start [] w
    go_wp2_with (first
          | fail)
    exact bodyPost_ret (results_one rfl rfl) rfl ⟨rfl, hp.keep⟩
/-- The speed that a gap asks for, and the answer. -/
def aimv (gap t : Int) : Int := clampv (if gap < 0 then (if 8589934592 < dq (cl (0 - gap)) (cl (34359738368 * t / 4294967296)) then 8589934592 else dq (cl (0 - gap)) (cl (34359738368 * t / 4294967296))) else cl (0 - dq gap t)) (-1099511627776) 1099511627776
def aimO (gap t : Int) : Int × Int := if t ≤ 0 then (0, 2) else (aimv gap t, 0)
set_option maxHeartbeats 2000000 in
theorem aim_any (gap t : Int) (hg : I64 gap) (ht : I64 t) (w : World) : Calls Try.prog 16 #[.int .i64 gap, .int .i64 t] w (Ret (.tuple #[.int .i64 (aimO gap t).1, .int .i64 (aimO gap t).2]) w) := by
  unfold aimO
  by_cases h1 : t ≤ 0
  · rw [if_pos h1]
    clear hg ht
    go_enter Try.func16, Try.ntmps16
    have hp := Hp.start [] w
    go_wp2_with (first
          | fail)
    exact bodyPost_ret (results_two rfl rfl rfl) rfl ⟨rfl, hp.keep⟩
  · rw [if_neg h1]
    unfold aimv
    have i0 : I64 0 := by unfold I64; omega
    have D1 := Lib.hid (fdiv_any gap t hg ht)
    have S1 := Lib.hid (fsub_any 0 (dq gap t) i0 (dq_i64 _ _))
    have S2 := Lib.hid (fsub_any 0 gap i0 hg)
    have M1 := Lib.hid (fmul_any 34359738368 t (by unfold I64; omega) ht)
    have D2 := Lib.hid (fdiv_any (cl (0 - gap)) (cl (34359738368 * t / 4294967296)) (cl_i64 _) (cl_i64 _))
    have hmn := run_minR (P := Try.prog) #[22, 22] 22 (dq (cl (0 - gap)) (cl (34359738368 * t / 4294967296))) 8589934592 _ rfl
    clear hg ht i0
    generalize (if 8589934592 < dq (cl (0 - gap)) (cl (34359738368 * t / 4294967296)) then 8589934592 else dq (cl (0 - gap)) (cl (34359738368 * t / 4294967296))) = m at *
    generalize dq (cl (0 - gap)) (cl (34359738368 * t / 4294967296)) = q at *
    generalize cl (34359738368 * t / 4294967296) = p at *
    generalize cl (0 - dq gap t) = s at *
    generalize dq gap t = d at *
    by_cases h2 : gap < 0
    · simp only [if_pos h2]
      have CL := Lib.hid (fclamp_any m (-1099511627776) 1099511627776)
      generalize clampv m (-1099511627776) 1099511627776 = r at *
      generalize cl (0 - gap) = ng at *
      go_enter Try.func16, Try.ntmps16
      have hp := Hp.start [] w
      go_wp2_with (first
          | ((with_reducible first | refine sx_call hp (D1.out _) ?_ | refine sx_call hp (S1.out _) ?_ | refine sx_call hp (S2.out _) ?_ | refine sx_call hp (M1.out _) ?_ | refine sx_call hp (D2.out _) ?_ | refine sx_call hp (CL.out _) ?_); clear hp; (try clear w1); intro w1 hp))
      exact bodyPost_ret (results_two rfl rfl rfl) rfl ⟨rfl, hp.keep⟩
    · simp only [if_neg h2]
      have CL := Lib.hid (fclamp_any s (-1099511627776) 1099511627776)
      generalize clampv s (-1099511627776) 1099511627776 = r at *
      clear S2 M1 D2 hmn
      go_enter Try.func16, Try.ntmps16
      have hp := Hp.start [] w
      go_wp2_with (first
          | ((with_reducible first | refine sx_call hp (D1.out _) ?_ | refine sx_call hp (S1.out _) ?_ | refine sx_call hp (CL.out _) ?_); clear hp; (try clear w1); intro w1 hp))
      exact bodyPost_ret (results_two rfl rfl rfl) rfl ⟨rfl, hp.keep⟩
end Go.Proofs.Ytboiepagonlnkaa
set_option linter.unusedSimpArgs false
set_option linter.unusedVariables false
set_option maxRecDepth 100000
namespace Go.Proofs.Ytboiepagonlnkaa
open Go Go.RowKit
attribute [local irreducible] wpList

theorem u64_pos {a : Int} (h : I64 a) (h0 : ¬ a < 0) : IntKind.u64.wrap a = a.natAbs := by
  unfold I64 at h
  simp only [IntKind.wrap_u64]
  omega
theorem u64_neg {a : Int} (h : I64 a) (h0 : a < 0) : IntKind.u64.wrap (-IntKind.u64.wrap a) = a.natAbs := by
  unfold I64 at h
  simp only [IntKind.wrap_u64]
  omega
set_option maxHeartbeats 1000000 in
theorem rless_any (a b : Int) (ha : I64 a) (hb : I64 b) (w : World) : Calls Try.prog 59 #[.int .i64 a, .int .i64 b] w (Ret (.bool (decide (a.natAbs < b.natAbs))) w) := by
  by_cases h1 : a < 0
  · by_cases h2 : b < 0
    · rw [show decide (a.natAbs < b.natAbs) = decide (IntKind.u64.wrap (-IntKind.u64.wrap a) < IntKind.u64.wrap (-IntKind.u64.wrap b)) by rw [u64_neg ha h1, u64_neg hb h2, decide_eq_decide]; omega]
      clear ha hb
      go_enter Try.func59, Try.ntmps59
      have hp := Hp.start [] w
      go_wp2_with (first
          | fail)
      exact bodyPost_ret (results_one rfl rfl) rfl ⟨rfl, hp.keep⟩
    · rw [show decide (a.natAbs < b.natAbs) = decide (IntKind.u64.wrap (-IntKind.u64.wrap a) < IntKind.u64.wrap b) by rw [u64_neg ha h1, u64_pos hb h2, decide_eq_decide]; omega]
      clear ha hb
      go_enter Try.func59, Try.ntmps59
      have hp := Hp.start [] w
      go_wp2_with (first
          | fail)
      exact bodyPost_ret (results_one rfl rfl) rfl ⟨rfl, hp.keep⟩
  · by_cases h2 : b < 0
    · rw [show decide (a.natAbs < b.natAbs) = decide (IntKind.u64.wrap a < IntKind.u64.wrap (-IntKind.u64.wrap b)) by rw [u64_pos ha h1, u64_neg hb h2, decide_eq_decide]; omega]
      clear ha hb
      go_enter Try.func59, Try.ntmps59
      have hp := Hp.start [] w
      go_wp2_with (first
          | fail)
      exact bodyPost_ret (results_one rfl rfl) rfl ⟨rfl, hp.keep⟩
    · rw [show decide (a.natAbs < b.natAbs) = decide (IntKind.u64.wrap a < IntKind.u64.wrap b) by rw [u64_pos ha h1, u64_pos hb h2, decide_eq_decide]; omega]
      clear ha hb
      go_enter Try.func59, Try.ntmps59
      have hp := Hp.start [] w
      go_wp2_with (first
          | fail)
      exact bodyPost_ret (results_one rfl rfl) rfl ⟨rfl, hp.keep⟩
/-- A matrix of three rows, and what it makes of a vector. -/
abbrev MV (p q r : P3) : Value := .agg #[.int .i64 p.x, .int .i64 p.y, .int .i64 p.z, .int .i64 q.x, .int .i64 q.y, .int .i64 q.z, .int .i64 r.x, .int .i64 r.y, .int .i64 r.z]
def P3.cdot (a b : P3) : Int := cl (a.dot b / 4294967296)
set_option maxHeartbeats 2000000 in
theorem apply_any (p q r v : P3) (hp' : p.i64) (hq : q.i64) (hr : r.i64) (hv : v.i64) (w : World) : Calls Try.prog 37 #[MV p q r, PV v] w (Ret (PV ⟨p.cdot v, q.cdot v, r.cdot v⟩) w) := by
  have D1 := Lib.hid (vDot_any p v hp' hv)
  have D2 := Lib.hid (vDot_any q v hq hv)
  have D3 := Lib.hid (vDot_any r v hr hv)
  clear hp' hq hr hv
  unfold P3.cdot
  generalize cl (p.dot v / 4294967296) = x at *
  generalize cl (q.dot v / 4294967296) = y at *
  generalize cl (r.dot v / 4294967296) = e at *
  go_enter Try.func37, Try.ntmps37
  have hp := Hp.start [] w
  go_upto_region 1 with (first
          | ((with_reducible apply sx_box hp); (first | exact za rfl | exact zu rfl | exact zi rfl | exact zb rfl | exact zr rfl | exact zs rfl | exact zf rfl | exact zg rfl | exact zn rfl | exact zv rfl | exact zw rfl); exact rfl; clear hp; (try clear w1); intro g w1 hp; simp only [zp, zq, z0, z1])
          | ((with_reducible apply sx_alloc hp); infer_instance; exact rfl; clear hp; (try clear w1); intro g w1 hp; simp only [zp, zq, z0, z1]))
  have hq := hp
  refine wp_drawnG_hp hp hq [16] (.q 0 (.q 1 (.q 2 (.q 3 (.q 5 (.q 6 (.q 7 (.q 8 (.q 10 (.q 11 (.q 12 (.q 13 (.p 4 (.p 9 (.p 14 (.q 15 (.l 16 .nil))))))))))))))))) (by kernel_rfl) (by kernel_rfl) ?_
  clear hp hq; (try clear w1); intro w1 hp hq
  repeat' (first
    | (((with_reducible apply sg_q); exact zo rfl); (first
        | ((with_reducible apply sg_load_agg hp); exact rfl; exact zt rfl; infer_instance; infer_instance; (first | exact zl rfl | exact LB_le (by omega)); (first | (with_reducible exact LB_set (by omega)) | (simp only [n0, Nat.reduceAdd, n1, n2, n3, n4, n5, n6, n7, n8, n9]; try rfl)); simp only [zp, zq, z0, z1])
        | ((with_reducible apply sg_indexAddr hp); exact rfl; exact zx rfl; exact zk rfl; infer_instance; (first | exact AggTy.size | exact OneTy.size); omega; omega; ((try simp only [m0, Int.reduceToNat, m1, m2, Nat.reduceMul, Nat.reduceAdd, m3, m4, m5, n0]); exact rfl); simp only [zp, zq, z0, z1])
        | ((with_reducible apply sg_pure hp); exact rfl; (focus (intro _; go_simp; (try go_ints); try with_reducible rfl)); simp only [zp, zq, z0, z1])))
    | (((with_reducible apply sg_p); exact zo rfl); ((with_reducible apply sg_call hp); exact rfl; (focus (intro _; go_simp; try first | with_reducible rfl | exact ⟨rfl, rfl⟩)); (with_reducible first | exact fun w => D1.out w | exact fun w => D2.out w | exact fun w => D3.out w); simp only [zp, zq, z0, z1]))
    | (((with_reducible apply sg_l); exact zo rfl); (first
        | ((with_reducible apply sg_store_far hq); exact rfl; exact zt rfl; (first | exact za rfl | exact zu rfl | exact zi rfl | exact zb rfl | exact zr rfl | exact zs rfl | exact zf rfl | exact zg rfl | exact zn rfl | exact zv rfl | exact zw rfl); exact rfl; (first | exact AggTy.size | exact OneTy.size); exact rfl; infer_instance; (first | (with_reducible exact LB_set (by omega)) | (simp only [n0, Nat.reduceAdd, n1, n2, n3, n4, n5, n6, n7, n8, n9]; try rfl)); (first | exact zl rfl | exact LB_le (by omega)); exact rfl; infer_instance; (repeat (first | exact List.Sublist.refl _ | apply List.Sublist.cons)); clear hp hq; (try clear w1); intro w1 hp hq)
        | ((with_reducible apply sg_store hq); exact rfl; exact zt rfl; (first | exact za rfl | exact zu rfl | exact zi rfl | exact zb rfl | exact zr rfl | exact zs rfl | exact zf rfl | exact zg rfl | exact zn rfl | exact zv rfl | exact zw rfl); exact rfl; (first | exact AggTy.size | exact OneTy.size); exact rfl; infer_instance; (first | (with_reducible exact LB_set (by omega)) | (simp only [n0, Nat.reduceAdd, n1, n2, n3, n4, n5, n6, n7, n8, n9]; try rfl)); (first | exact zl rfl | exact LB_le (by omega)); exact rfl; infer_instance; exact rfl; clear hp hq; (try clear w1); intro w1 hq; have hp := True.intro)))
    | ((with_reducible apply sg_nil hq); clear hp hq; (try clear w1); intro w1 hp))
  go_wp2
  exact bodyPost_ret (results_one rfl ⟨_, rfl, run_load_agg hp (Nat.le_of_ble_eq_true rfl)⟩) rfl ⟨rfl, hp.keep⟩
end Go.Proofs.Ytboiepagonlnkaa
set_option linter.unusedSimpArgs false
set_option linter.unusedVariables false
set_option maxRecDepth 100000
namespace Go.Proofs.Ytboiepagonlnkaa
open Go Go.RowKit
attribute [local irreducible] wpList

set_option maxHeartbeats 8000000 in
theorem axis0 (x y u : Int) (lt : Nat → Nat → Bool)
    (L00 : Hid (∀ w, Calls Try.prog 59 #[.int .i64 x, .int .i64 x] w (Ret (.bool (lt 0 0)) w)))
    (L10 : Hid (∀ w, Calls Try.prog 59 #[.int .i64 y, .int .i64 x] w (Ret (.bool (lt 1 0)) w)))
    (L20 : Hid (∀ w, Calls Try.prog 59 #[.int .i64 u, .int .i64 x] w (Ret (.bool (lt 2 0)) w)))
    (F0 : lt 0 0 = false)
    (F1 : lt 1 0 = false)
    (F2 : lt 2 0 = false)
    (w : World) : Calls Try.prog 31 #[PV ⟨x, y, u⟩] w (Ret (PV ⟨4294967296, 0, 0⟩) w) := by
  go_enter Try.func31, Try.ntmps31
  have hp := Hp.start [] w
  go_wp2_with (first
          | ((with_reducible apply sx_box hp); exact za rfl; exact rfl; clear hp; (try clear w1); intro g w1 hp; simp only [zp, zq, z0, z1])
          | ((with_reducible apply sx_alloc hp); infer_instance; exact rfl; clear hp; (try clear w1); intro g w1 hp; simp only [zp, zq, z0, z1])
          | ((with_reducible apply sx_load_agg hp); exact zt rfl; infer_instance; infer_instance; (first | exact zl rfl | exact LB_le (by omega)); (first | (with_reducible exact LB_set (by omega)) | (simp only [n0, Nat.reduceAdd, n1, n2, n3, n4, n5, n6, n7, n8, n9]; try rfl)); simp only [zp, zq, z0, z1])
          | ((with_reducible apply sx_load_one hp); exact zt rfl; infer_instance; infer_instance; (first | exact zio rfl | exact LB_get (by omega)); simp only [zp, zq, z0, z1])
          | ((with_reducible apply sx_store hp); exact zt rfl; exact za rfl; exact rfl; (first | exact AggTy.size | exact OneTy.size); exact rfl; infer_instance; (first | (with_reducible exact LB_set (by omega)) | (simp only [n0, Nat.reduceAdd, n1, n2, n3, n4, n5, n6, n7, n8, n9]; try rfl)); (first | exact zl rfl | exact LB_le (by omega)); exact rfl; infer_instance; clear hp; (try clear w1); intro w1 hp)
          | ((with_reducible apply sx_index_one); exact za rfl; exact zk rfl; infer_instance; infer_instance; omega; omega; (first | exact rfl | (go_simp; done)); simp only [zp, zq, z0, z1])
          | ((with_reducible apply sx_index_agg); exact za rfl; exact zk rfl; infer_instance; infer_instance; omega; omega; ((try simp only [m0, Int.reduceToNat, m1, m2, Nat.reduceMul, m3, m4, n5, n1, n2, n3, n4, n6]); exact rfl); simp only [zp, zq, z0, z1]))
  refine wp_scope_straight ?_
  go_wp2_with (first
          | ((with_reducible apply sx_box hp); exact za rfl; exact rfl; clear hp; (try clear w1); intro g w1 hp; simp only [zp, zq, z0, z1])
          | ((with_reducible apply sx_alloc hp); infer_instance; exact rfl; clear hp; (try clear w1); intro g w1 hp; simp only [zp, zq, z0, z1])
          | ((with_reducible apply sx_load_agg hp); exact zt rfl; infer_instance; infer_instance; (first | exact zl rfl | exact LB_le (by omega)); (first | (with_reducible exact LB_set (by omega)) | (simp only [n0, Nat.reduceAdd, n1, n2, n3, n4, n5, n6, n7, n8, n9]; try rfl)); simp only [zp, zq, z0, z1])
          | ((with_reducible apply sx_load_one hp); exact zt rfl; infer_instance; infer_instance; (first | exact zio rfl | exact LB_get (by omega)); simp only [zp, zq, z0, z1])
          | ((with_reducible apply sx_store hp); exact zt rfl; exact za rfl; exact rfl; (first | exact AggTy.size | exact OneTy.size); exact rfl; infer_instance; (first | (with_reducible exact LB_set (by omega)) | (simp only [n0, Nat.reduceAdd, n1, n2, n3, n4, n5, n6, n7, n8, n9]; try rfl)); (first | exact zl rfl | exact LB_le (by omega)); exact rfl; infer_instance; clear hp; (try clear w1); intro w1 hp)
          | ((with_reducible apply sx_index_one); exact za rfl; exact zk rfl; infer_instance; infer_instance; omega; omega; (first | exact rfl | (go_simp; done)); simp only [zp, zq, z0, z1])
          | ((with_reducible apply sx_index_agg); exact za rfl; exact zk rfl; infer_instance; infer_instance; omega; omega; ((try simp only [m0, Int.reduceToNat, m1, m2, Nat.reduceMul, m3, m4, n5, n1, n2, n3, n4, n6]); exact rfl); simp only [zp, zq, z0, z1]))
  rename_i gn go K9 hK9
  obtain ⟨gl, rfl⟩ : ∃ k : Nat, k = g := ⟨_, rfl⟩
  refine wp_label ?_
  go_wp2_with (first
          | ((with_reducible apply sx_box hp); exact za rfl; exact rfl; clear hp; (try clear w1); intro g w1 hp; simp only [zp, zq, z0, z1])
          | ((with_reducible apply sx_alloc hp); infer_instance; exact rfl; clear hp; (try clear w1); intro g w1 hp; simp only [zp, zq, z0, z1])
          | ((with_reducible apply sx_load_agg hp); exact zt rfl; infer_instance; infer_instance; (first | exact zl rfl | exact LB_le (by omega)); (first | (with_reducible exact LB_set (by omega)) | (simp only [n0, Nat.reduceAdd, n1, n2, n3, n4, n5, n6, n7, n8, n9]; try rfl)); simp only [zp, zq, z0, z1])
          | ((with_reducible apply sx_load_one hp); exact zt rfl; infer_instance; infer_instance; (first | exact zio rfl | exact LB_get (by omega)); simp only [zp, zq, z0, z1])
          | ((with_reducible apply sx_store hp); exact zt rfl; exact za rfl; exact rfl; (first | exact AggTy.size | exact OneTy.size); exact rfl; infer_instance; (first | (with_reducible exact LB_set (by omega)) | (simp only [n0, Nat.reduceAdd, n1, n2, n3, n4, n5, n6, n7, n8, n9]; try rfl)); (first | exact zl rfl | exact LB_le (by omega)); exact rfl; infer_instance; clear hp; (try clear w1); intro w1 hp)
          | ((with_reducible apply sx_index_one); exact za rfl; exact zk rfl; infer_instance; infer_instance; omega; omega; (first | exact rfl | (go_simp; done)); simp only [zp, zq, z0, z1])
          | ((with_reducible apply sx_index_agg); exact za rfl; exact zk rfl; infer_instance; infer_instance; omega; omega; ((try simp only [m0, Int.reduceToNat, m1, m2, Nat.reduceMul, m3, m4, n5, n1, n2, n3, n4, n6]); exact rfl); simp only [zp, zq, z0, z1]))
  go_loopw [15] (fun kv wr => ∃ (k : Nat) (c : Int), k ≤ 0 ∧ c = k ∧ kv = .int .i64 c ∧ Hp [] w [⟨gl, 91, [.int .i64 x, .int .i64 y, .int .i64 u]⟩, ⟨go, 24, [.int .i64 0, .int .i64 0, .int .i64 0]⟩, ⟨gn, 24, [.int .i64 x, .int .i64 y, .int .i64 u]⟩] wr) (fun kv _ => 3 - (intOf kv).toNat)
  case atStart => exact ⟨0, 0, by omega, rfl, rfl, hp⟩
  case round =>
    clear hp
    obtain ⟨k, c, hk, hc, rfl, hp⟩ := hrel
    have hks : k = 0 := by omega
    rcases hks with rfl
    · obtain rfl : c = 0 := by omega
      clear hc
      go_wp2_with (first
          | ((with_reducible apply sx_box hp); exact za rfl; exact rfl; clear hp; (try clear w1); intro g w1 hp; simp only [zp, zq, z0, z1])
          | ((with_reducible apply sx_alloc hp); infer_instance; exact rfl; clear hp; (try clear w1); intro g w1 hp; simp only [zp, zq, z0, z1])
          | ((with_reducible apply sx_load_agg hp); exact zt rfl; infer_instance; infer_instance; (first | exact zl rfl | exact LB_le (by omega)); (first | (with_reducible exact LB_set (by omega)) | (simp only [n0, Nat.reduceAdd, n1, n2, n3, n4, n5, n6, n7, n8, n9]; try rfl)); simp only [zp, zq, z0, z1])
          | ((with_reducible apply sx_load_one hp); exact zt rfl; infer_instance; infer_instance; (first | exact zio rfl | exact LB_get (by omega)); simp only [zp, zq, z0, z1])
          | ((with_reducible apply sx_store hp); exact zt rfl; exact za rfl; exact rfl; (first | exact AggTy.size | exact OneTy.size); exact rfl; infer_instance; (first | (with_reducible exact LB_set (by omega)) | (simp only [n0, Nat.reduceAdd, n1, n2, n3, n4, n5, n6, n7, n8, n9]; try rfl)); (first | exact zl rfl | exact LB_le (by omega)); exact rfl; infer_instance; clear hp; (try clear w1); intro w1 hp)
          | ((with_reducible apply sx_index_one); exact za rfl; exact zk rfl; infer_instance; infer_instance; omega; omega; (first | exact rfl | (go_simp; done)); simp only [zp, zq, z0, z1])
          | ((with_reducible apply sx_index_agg); exact za rfl; exact zk rfl; infer_instance; infer_instance; omega; omega; ((try simp only [m0, Int.reduceToNat, m1, m2, Nat.reduceMul, m3, m4, n5, n1, n2, n3, n4, n6]); exact rfl); simp only [zp, zq, z0, z1]))
      go_loopw [19] (fun jv wr => ∃ j : Nat, j ≤ 3 ∧ jv = .int .i64 j ∧ (∀ i, i < j → lt i 0 = false) ∧ Hp [] w [⟨gl, 91, [.int .i64 x, .int .i64 y, .int .i64 u]⟩, ⟨go, 24, [.int .i64 0, .int .i64 0, .int .i64 0]⟩, ⟨gn, 24, [.int .i64 x, .int .i64 y, .int .i64 u]⟩] wr) (fun jv _ => 3 - (intOf jv).toNat)
      case atStart => exact ⟨0, by omega, rfl, fun i hi => absurd hi (by omega), hp⟩
      case round =>
        clear hp
        obtain ⟨j, hj, rfl, hlow, hp⟩ := hrel
        have Hlow := Lib.hid hlow
        clear hlow
        have hjs : j = 0 ∨ j = 1 ∨ j = 2 ∨ j = 3 := by omega
        rcases hjs with rfl | rfl | rfl | rfl
        · skip
          have hF : lt 0 0 = false := F0
          have L00' := L00
          rw [hF] at L00'
          go_wp2_with (first
          | ((with_reducible apply sx_box hp); exact za rfl; exact rfl; clear hp; (try clear w1); intro g w1 hp; simp only [zp, zq, z0, z1])
          | ((with_reducible apply sx_alloc hp); infer_instance; exact rfl; clear hp; (try clear w1); intro g w1 hp; simp only [zp, zq, z0, z1])
          | ((with_reducible apply sx_load_agg hp); exact zt rfl; infer_instance; infer_instance; (first | exact zl rfl | exact LB_le (by omega)); (first | (with_reducible exact LB_set (by omega)) | (simp only [n0, Nat.reduceAdd, n1, n2, n3, n4, n5, n6, n7, n8, n9]; try rfl)); simp only [zp, zq, z0, z1])
          | ((with_reducible apply sx_load_one hp); exact zt rfl; infer_instance; infer_instance; (first | exact zio rfl | exact LB_get (by omega)); simp only [zp, zq, z0, z1])
          | ((with_reducible apply sx_store hp); exact zt rfl; exact za rfl; exact rfl; (first | exact AggTy.size | exact OneTy.size); exact rfl; infer_instance; (first | (with_reducible exact LB_set (by omega)) | (simp only [n0, Nat.reduceAdd, n1, n2, n3, n4, n5, n6, n7, n8, n9]; try rfl)); (first | exact zl rfl | exact LB_le (by omega)); exact rfl; infer_instance; clear hp; (try clear w1); intro w1 hp)
          | ((with_reducible apply sx_index_one); exact za rfl; exact zk rfl; infer_instance; infer_instance; omega; omega; (first | exact rfl | (go_simp; done)); simp only [zp, zq, z0, z1])
          | ((with_reducible apply sx_index_agg); exact za rfl; exact zk rfl; infer_instance; infer_instance; omega; omega; ((try simp only [m0, Int.reduceToNat, m1, m2, Nat.reduceMul, m3, m4, n5, n1, n2, n3, n4, n6]); exact rfl); simp only [zp, zq, z0, z1])
          | ((with_reducible refine sx_call hp (L00'.out _) ?_); clear hp; (try clear w1); intro w1 hp))
          go_roundw
          case rel =>
            refine ⟨1, by omega, by go_num, fun i hi => ?_, hp⟩
            rcases Nat.lt_or_ge i 0 with h | h
            · exact Hlow.out i h
            · obtain rfl : i = 0 := by omega
              assumption
          case measure => simp [intOf]
        · skip
          have hF : lt 1 0 = false := F1
          have L10' := L10
          rw [hF] at L10'
          go_wp2_with (first
          | ((with_reducible apply sx_box hp); exact za rfl; exact rfl; clear hp; (try clear w1); intro g w1 hp; simp only [zp, zq, z0, z1])
          | ((with_reducible apply sx_alloc hp); infer_instance; exact rfl; clear hp; (try clear w1); intro g w1 hp; simp only [zp, zq, z0, z1])
          | ((with_reducible apply sx_load_agg hp); exact zt rfl; infer_instance; infer_instance; (first | exact zl rfl | exact LB_le (by omega)); (first | (with_reducible exact LB_set (by omega)) | (simp only [n0, Nat.reduceAdd, n1, n2, n3, n4, n5, n6, n7, n8, n9]; try rfl)); simp only [zp, zq, z0, z1])
          | ((with_reducible apply sx_load_one hp); exact zt rfl; infer_instance; infer_instance; (first | exact zio rfl | exact LB_get (by omega)); simp only [zp, zq, z0, z1])
          | ((with_reducible apply sx_store hp); exact zt rfl; exact za rfl; exact rfl; (first | exact AggTy.size | exact OneTy.size); exact rfl; infer_instance; (first | (with_reducible exact LB_set (by omega)) | (simp only [n0, Nat.reduceAdd, n1, n2, n3, n4, n5, n6, n7, n8, n9]; try rfl)); (first | exact zl rfl | exact LB_le (by omega)); exact rfl; infer_instance; clear hp; (try clear w1); intro w1 hp)
          | ((with_reducible apply sx_index_one); exact za rfl; exact zk rfl; infer_instance; infer_instance; omega; omega; (first | exact rfl | (go_simp; done)); simp only [zp, zq, z0, z1])
          | ((with_reducible apply sx_index_agg); exact za rfl; exact zk rfl; infer_instance; infer_instance; omega; omega; ((try simp only [m0, Int.reduceToNat, m1, m2, Nat.reduceMul, m3, m4, n5, n1, n2, n3, n4, n6]); exact rfl); simp only [zp, zq, z0, z1])
          | ((with_reducible refine sx_call hp (L10'.out _) ?_); clear hp; (try clear w1); intro w1 hp))
          go_roundw
          case rel =>
            refine ⟨2, by omega, by go_num, fun i hi => ?_, hp⟩
            rcases Nat.lt_or_ge i 1 with h | h
            · exact Hlow.out i h
            · obtain rfl : i = 1 := by omega
              assumption
          case measure => simp [intOf]
        · skip
          have hF : lt 2 0 = false := F2
          have L20' := L20
          rw [hF] at L20'
          go_wp2_with (first
          | ((with_reducible apply sx_box hp); exact za rfl; exact rfl; clear hp; (try clear w1); intro g w1 hp; simp only [zp, zq, z0, z1])
          | ((with_reducible apply sx_alloc hp); infer_instance; exact rfl; clear hp; (try clear w1); intro g w1 hp; simp only [zp, zq, z0, z1])
          | ((with_reducible apply sx_load_agg hp); exact zt rfl; infer_instance; infer_instance; (first | exact zl rfl | exact LB_le (by omega)); (first | (with_reducible exact LB_set (by omega)) | (simp only [n0, Nat.reduceAdd, n1, n2, n3, n4, n5, n6, n7, n8, n9]; try rfl)); simp only [zp, zq, z0, z1])
          | ((with_reducible apply sx_load_one hp); exact zt rfl; infer_instance; infer_instance; (first | exact zio rfl | exact LB_get (by omega)); simp only [zp, zq, z0, z1])
          | ((with_reducible apply sx_store hp); exact zt rfl; exact za rfl; exact rfl; (first | exact AggTy.size | exact OneTy.size); exact rfl; infer_instance; (first | (with_reducible exact LB_set (by omega)) | (simp only [n0, Nat.reduceAdd, n1, n2, n3, n4, n5, n6, n7, n8, n9]; try rfl)); (first | exact zl rfl | exact LB_le (by omega)); exact rfl; infer_instance; clear hp; (try clear w1); intro w1 hp)
          | ((with_reducible apply sx_index_one); exact za rfl; exact zk rfl; infer_instance; infer_instance; omega; omega; (first | exact rfl | (go_simp; done)); simp only [zp, zq, z0, z1])
          | ((with_reducible apply sx_index_agg); exact za rfl; exact zk rfl; infer_instance; infer_instance; omega; omega; ((try simp only [m0, Int.reduceToNat, m1, m2, Nat.reduceMul, m3, m4, n5, n1, n2, n3, n4, n6]); exact rfl); simp only [zp, zq, z0, z1])
          | ((with_reducible refine sx_call hp (L20'.out _) ?_); clear hp; (try clear w1); intro w1 hp))
          go_roundw
          case rel =>
            refine ⟨3, by omega, by go_num, fun i hi => ?_, hp⟩
            rcases Nat.lt_or_ge i 2 with h | h
            · exact Hlow.out i h
            · obtain rfl : i = 2 := by omega
              assumption
          case measure => simp [intOf]
        · skip
          go_wp2_with (first
          | ((with_reducible apply sx_box hp); exact za rfl; exact rfl; clear hp; (try clear w1); intro g w1 hp; simp only [zp, zq, z0, z1])
          | ((with_reducible apply sx_alloc hp); infer_instance; exact rfl; clear hp; (try clear w1); intro g w1 hp; simp only [zp, zq, z0, z1])
          | ((with_reducible apply sx_load_agg hp); exact zt rfl; infer_instance; infer_instance; (first | exact zl rfl | exact LB_le (by omega)); (first | (with_reducible exact LB_set (by omega)) | (simp only [n0, Nat.reduceAdd, n1, n2, n3, n4, n5, n6, n7, n8, n9]; try rfl)); simp only [zp, zq, z0, z1])
          | ((with_reducible apply sx_load_one hp); exact zt rfl; infer_instance; infer_instance; (first | exact zio rfl | exact LB_get (by omega)); simp only [zp, zq, z0, z1])
          | ((with_reducible apply sx_store hp); exact zt rfl; exact za rfl; exact rfl; (first | exact AggTy.size | exact OneTy.size); exact rfl; infer_instance; (first | (with_reducible exact LB_set (by omega)) | (simp only [n0, Nat.reduceAdd, n1, n2, n3, n4, n5, n6, n7, n8, n9]; try rfl)); (first | exact zl rfl | exact LB_le (by omega)); exact rfl; infer_instance; clear hp; (try clear w1); intro w1 hp)
          | ((with_reducible apply sx_index_one); exact za rfl; exact zk rfl; infer_instance; infer_instance; omega; omega; (first | exact rfl | (go_simp; done)); simp only [zp, zq, z0, z1])
          | ((with_reducible apply sx_index_agg); exact za rfl; exact zk rfl; infer_instance; infer_instance; omega; omega; ((try simp only [m0, Int.reduceToNat, m1, m2, Nat.reduceMul, m3, m4, n5, n1, n2, n3, n4, n6]); exact rfl); simp only [zp, zq, z0, z1]))
          exact bodyPost_ret (results_one rfl ⟨_, rfl, run_load_agg hp (Nat.le_of_ble_eq_true rfl)⟩) rfl ⟨rfl, hp.keep⟩
set_option maxHeartbeats 8000000 in
theorem axis1 (x y u : Int) (lt : Nat → Nat → Bool)
    (L00 : Hid (∀ w, Calls Try.prog 59 #[.int .i64 x, .int .i64 x] w (Ret (.bool (lt 0 0)) w)))
    (L01 : Hid (∀ w, Calls Try.prog 59 #[.int .i64 x, .int .i64 y] w (Ret (.bool (lt 0 1)) w)))
    (L10 : Hid (∀ w, Calls Try.prog 59 #[.int .i64 y, .int .i64 x] w (Ret (.bool (lt 1 0)) w)))
    (L11 : Hid (∀ w, Calls Try.prog 59 #[.int .i64 y, .int .i64 y] w (Ret (.bool (lt 1 1)) w)))
    (L20 : Hid (∀ w, Calls Try.prog 59 #[.int .i64 u, .int .i64 x] w (Ret (.bool (lt 2 0)) w)))
    (L21 : Hid (∀ w, Calls Try.prog 59 #[.int .i64 u, .int .i64 y] w (Ret (.bool (lt 2 1)) w)))
    (F0 : lt 0 1 = false)
    (F1 : lt 1 1 = false)
    (F2 : lt 2 1 = false)
    (T0 : lt 0 0 = true ∨ lt 1 0 = true ∨ lt 2 0 = true)
    (w : World) : Calls Try.prog 31 #[PV ⟨x, y, u⟩] w (Ret (PV ⟨0, 4294967296, 0⟩) w) := by
  go_enter Try.func31, Try.ntmps31
  have hp := Hp.start [] w
  go_wp2_with (first
          | ((with_reducible apply sx_box hp); exact za rfl; exact rfl; clear hp; (try clear w1); intro g w1 hp; simp only [zp, zq, z0, z1])
          | ((with_reducible apply sx_alloc hp); infer_instance; exact rfl; clear hp; (try clear w1); intro g w1 hp; simp only [zp, zq, z0, z1])
          | ((with_reducible apply sx_load_agg hp); exact zt rfl; infer_instance; infer_instance; (first | exact zl rfl | exact LB_le (by omega)); (first | (with_reducible exact LB_set (by omega)) | (simp only [n0, Nat.reduceAdd, n1, n2, n3, n4, n5, n6, n7, n8, n9]; try rfl)); simp only [zp, zq, z0, z1])
          | ((with_reducible apply sx_load_one hp); exact zt rfl; infer_instance; infer_instance; (first | exact zio rfl | exact LB_get (by omega)); simp only [zp, zq, z0, z1])
          | ((with_reducible apply sx_store hp); exact zt rfl; exact za rfl; exact rfl; (first | exact AggTy.size | exact OneTy.size); exact rfl; infer_instance; (first | (with_reducible exact LB_set (by omega)) | (simp only [n0, Nat.reduceAdd, n1, n2, n3, n4, n5, n6, n7, n8, n9]; try rfl)); (first | exact zl rfl | exact LB_le (by omega)); exact rfl; infer_instance; clear hp; (try clear w1); intro w1 hp)
          | ((with_reducible apply sx_index_one); exact za rfl; exact zk rfl; infer_instance; infer_instance; omega; omega; (first | exact rfl | (go_simp; done)); simp only [zp, zq, z0, z1])
          | ((with_reducible apply sx_index_agg); exact za rfl; exact zk rfl; infer_instance; infer_instance; omega; omega; ((try simp only [m0, Int.reduceToNat, m1, m2, Nat.reduceMul, m3, m4, n5, n1, n2, n3, n4, n6]); exact rfl); simp only [zp, zq, z0, z1]))
  refine wp_scope_straight ?_
  go_wp2_with (first
          | ((with_reducible apply sx_box hp); exact za rfl; exact rfl; clear hp; (try clear w1); intro g w1 hp; simp only [zp, zq, z0, z1])
          | ((with_reducible apply sx_alloc hp); infer_instance; exact rfl; clear hp; (try clear w1); intro g w1 hp; simp only [zp, zq, z0, z1])
          | ((with_reducible apply sx_load_agg hp); exact zt rfl; infer_instance; infer_instance; (first | exact zl rfl | exact LB_le (by omega)); (first | (with_reducible exact LB_set (by omega)) | (simp only [n0, Nat.reduceAdd, n1, n2, n3, n4, n5, n6, n7, n8, n9]; try rfl)); simp only [zp, zq, z0, z1])
          | ((with_reducible apply sx_load_one hp); exact zt rfl; infer_instance; infer_instance; (first | exact zio rfl | exact LB_get (by omega)); simp only [zp, zq, z0, z1])
          | ((with_reducible apply sx_store hp); exact zt rfl; exact za rfl; exact rfl; (first | exact AggTy.size | exact OneTy.size); exact rfl; infer_instance; (first | (with_reducible exact LB_set (by omega)) | (simp only [n0, Nat.reduceAdd, n1, n2, n3, n4, n5, n6, n7, n8, n9]; try rfl)); (first | exact zl rfl | exact LB_le (by omega)); exact rfl; infer_instance; clear hp; (try clear w1); intro w1 hp)
          | ((with_reducible apply sx_index_one); exact za rfl; exact zk rfl; infer_instance; infer_instance; omega; omega; (first | exact rfl | (go_simp; done)); simp only [zp, zq, z0, z1])
          | ((with_reducible apply sx_index_agg); exact za rfl; exact zk rfl; infer_instance; infer_instance; omega; omega; ((try simp only [m0, Int.reduceToNat, m1, m2, Nat.reduceMul, m3, m4, n5, n1, n2, n3, n4, n6]); exact rfl); simp only [zp, zq, z0, z1]))
  rename_i gn go K9 hK9
  obtain ⟨gl, rfl⟩ : ∃ k : Nat, k = g := ⟨_, rfl⟩
  refine wp_label ?_
  go_wp2_with (first
          | ((with_reducible apply sx_box hp); exact za rfl; exact rfl; clear hp; (try clear w1); intro g w1 hp; simp only [zp, zq, z0, z1])
          | ((with_reducible apply sx_alloc hp); infer_instance; exact rfl; clear hp; (try clear w1); intro g w1 hp; simp only [zp, zq, z0, z1])
          | ((with_reducible apply sx_load_agg hp); exact zt rfl; infer_instance; infer_instance; (first | exact zl rfl | exact LB_le (by omega)); (first | (with_reducible exact LB_set (by omega)) | (simp only [n0, Nat.reduceAdd, n1, n2, n3, n4, n5, n6, n7, n8, n9]; try rfl)); simp only [zp, zq, z0, z1])
          | ((with_reducible apply sx_load_one hp); exact zt rfl; infer_instance; infer_instance; (first | exact zio rfl | exact LB_get (by omega)); simp only [zp, zq, z0, z1])
          | ((with_reducible apply sx_store hp); exact zt rfl; exact za rfl; exact rfl; (first | exact AggTy.size | exact OneTy.size); exact rfl; infer_instance; (first | (with_reducible exact LB_set (by omega)) | (simp only [n0, Nat.reduceAdd, n1, n2, n3, n4, n5, n6, n7, n8, n9]; try rfl)); (first | exact zl rfl | exact LB_le (by omega)); exact rfl; infer_instance; clear hp; (try clear w1); intro w1 hp)
          | ((with_reducible apply sx_index_one); exact za rfl; exact zk rfl; infer_instance; infer_instance; omega; omega; (first | exact rfl | (go_simp; done)); simp only [zp, zq, z0, z1])
          | ((with_reducible apply sx_index_agg); exact za rfl; exact zk rfl; infer_instance; infer_instance; omega; omega; ((try simp only [m0, Int.reduceToNat, m1, m2, Nat.reduceMul, m3, m4, n5, n1, n2, n3, n4, n6]); exact rfl); simp only [zp, zq, z0, z1]))
  go_loopw [15] (fun kv wr => ∃ (k : Nat) (c : Int), k ≤ 1 ∧ c = k ∧ kv = .int .i64 c ∧ Hp [] w [⟨gl, 91, [.int .i64 x, .int .i64 y, .int .i64 u]⟩, ⟨go, 24, [.int .i64 0, .int .i64 0, .int .i64 0]⟩, ⟨gn, 24, [.int .i64 x, .int .i64 y, .int .i64 u]⟩] wr) (fun kv _ => 3 - (intOf kv).toNat)
  case atStart => exact ⟨0, 0, by omega, rfl, rfl, hp⟩
  case round =>
    clear hp
    obtain ⟨k, c, hk, hc, rfl, hp⟩ := hrel
    have hks : k = 0 ∨ k = 1 := by omega
    rcases hks with rfl | rfl
    · obtain rfl : c = 0 := by omega
      clear hc
      go_wp2_with (first
          | ((with_reducible apply sx_box hp); exact za rfl; exact rfl; clear hp; (try clear w1); intro g w1 hp; simp only [zp, zq, z0, z1])
          | ((with_reducible apply sx_alloc hp); infer_instance; exact rfl; clear hp; (try clear w1); intro g w1 hp; simp only [zp, zq, z0, z1])
          | ((with_reducible apply sx_load_agg hp); exact zt rfl; infer_instance; infer_instance; (first | exact zl rfl | exact LB_le (by omega)); (first | (with_reducible exact LB_set (by omega)) | (simp only [n0, Nat.reduceAdd, n1, n2, n3, n4, n5, n6, n7, n8, n9]; try rfl)); simp only [zp, zq, z0, z1])
          | ((with_reducible apply sx_load_one hp); exact zt rfl; infer_instance; infer_instance; (first | exact zio rfl | exact LB_get (by omega)); simp only [zp, zq, z0, z1])
          | ((with_reducible apply sx_store hp); exact zt rfl; exact za rfl; exact rfl; (first | exact AggTy.size | exact OneTy.size); exact rfl; infer_instance; (first | (with_reducible exact LB_set (by omega)) | (simp only [n0, Nat.reduceAdd, n1, n2, n3, n4, n5, n6, n7, n8, n9]; try rfl)); (first | exact zl rfl | exact LB_le (by omega)); exact rfl; infer_instance; clear hp; (try clear w1); intro w1 hp)
          | ((with_reducible apply sx_index_one); exact za rfl; exact zk rfl; infer_instance; infer_instance; omega; omega; (first | exact rfl | (go_simp; done)); simp only [zp, zq, z0, z1])
          | ((with_reducible apply sx_index_agg); exact za rfl; exact zk rfl; infer_instance; infer_instance; omega; omega; ((try simp only [m0, Int.reduceToNat, m1, m2, Nat.reduceMul, m3, m4, n5, n1, n2, n3, n4, n6]); exact rfl); simp only [zp, zq, z0, z1]))
      go_loopw [19] (fun jv wr => ∃ j : Nat, j ≤ 3 ∧ jv = .int .i64 j ∧ (∀ i, i < j → lt i 0 = false) ∧ Hp [] w [⟨gl, 91, [.int .i64 x, .int .i64 y, .int .i64 u]⟩, ⟨go, 24, [.int .i64 0, .int .i64 0, .int .i64 0]⟩, ⟨gn, 24, [.int .i64 x, .int .i64 y, .int .i64 u]⟩] wr) (fun jv _ => 3 - (intOf jv).toNat)
      case atStart => exact ⟨0, by omega, rfl, fun i hi => absurd hi (by omega), hp⟩
      case round =>
        clear hp
        obtain ⟨j, hj, rfl, hlow, hp⟩ := hrel
        have Hlow := Lib.hid hlow
        clear hlow
        have hjs : j = 0 ∨ j = 1 ∨ j = 2 ∨ j = 3 := by omega
        rcases hjs with rfl | rfl | rfl | rfl
        · cases hF : lt 0 0
          · have L00' := L00
            rw [hF] at L00'
            go_wp2_with (first
          | ((with_reducible apply sx_box hp); exact za rfl; exact rfl; clear hp; (try clear w1); intro g w1 hp; simp only [zp, zq, z0, z1])
          | ((with_reducible apply sx_alloc hp); infer_instance; exact rfl; clear hp; (try clear w1); intro g w1 hp; simp only [zp, zq, z0, z1])
          | ((with_reducible apply sx_load_agg hp); exact zt rfl; infer_instance; infer_instance; (first | exact zl rfl | exact LB_le (by omega)); (first | (with_reducible exact LB_set (by omega)) | (simp only [n0, Nat.reduceAdd, n1, n2, n3, n4, n5, n6, n7, n8, n9]; try rfl)); simp only [zp, zq, z0, z1])
          | ((with_reducible apply sx_load_one hp); exact zt rfl; infer_instance; infer_instance; (first | exact zio rfl | exact LB_get (by omega)); simp only [zp, zq, z0, z1])
          | ((with_reducible apply sx_store hp); exact zt rfl; exact za rfl; exact rfl; (first | exact AggTy.size | exact OneTy.size); exact rfl; infer_instance; (first | (with_reducible exact LB_set (by omega)) | (simp only [n0, Nat.reduceAdd, n1, n2, n3, n4, n5, n6, n7, n8, n9]; try rfl)); (first | exact zl rfl | exact LB_le (by omega)); exact rfl; infer_instance; clear hp; (try clear w1); intro w1 hp)
          | ((with_reducible apply sx_index_one); exact za rfl; exact zk rfl; infer_instance; infer_instance; omega; omega; (first | exact rfl | (go_simp; done)); simp only [zp, zq, z0, z1])
          | ((with_reducible apply sx_index_agg); exact za rfl; exact zk rfl; infer_instance; infer_instance; omega; omega; ((try simp only [m0, Int.reduceToNat, m1, m2, Nat.reduceMul, m3, m4, n5, n1, n2, n3, n4, n6]); exact rfl); simp only [zp, zq, z0, z1])
          | ((with_reducible refine sx_call hp (L00'.out _) ?_); clear hp; (try clear w1); intro w1 hp))
            go_roundw
            case rel =>
              refine ⟨1, by omega, by go_num, fun i hi => ?_, hp⟩
              rcases Nat.lt_or_ge i 0 with h | h
              · exact Hlow.out i h
              · obtain rfl : i = 0 := by omega
                assumption
            case measure => simp [intOf]
          · have L00' := L00
            rw [hF] at L00'
            go_wp2_with (first
          | ((with_reducible apply sx_box hp); exact za rfl; exact rfl; clear hp; (try clear w1); intro g w1 hp; simp only [zp, zq, z0, z1])
          | ((with_reducible apply sx_alloc hp); infer_instance; exact rfl; clear hp; (try clear w1); intro g w1 hp; simp only [zp, zq, z0, z1])
          | ((with_reducible apply sx_load_agg hp); exact zt rfl; infer_instance; infer_instance; (first | exact zl rfl | exact LB_le (by omega)); (first | (with_reducible exact LB_set (by omega)) | (simp only [n0, Nat.reduceAdd, n1, n2, n3, n4, n5, n6, n7, n8, n9]; try rfl)); simp only [zp, zq, z0, z1])
          | ((with_reducible apply sx_load_one hp); exact zt rfl; infer_instance; infer_instance; (first | exact zio rfl | exact LB_get (by omega)); simp only [zp, zq, z0, z1])
          | ((with_reducible apply sx_store hp); exact zt rfl; exact za rfl; exact rfl; (first | exact AggTy.size | exact OneTy.size); exact rfl; infer_instance; (first | (with_reducible exact LB_set (by omega)) | (simp only [n0, Nat.reduceAdd, n1, n2, n3, n4, n5, n6, n7, n8, n9]; try rfl)); (first | exact zl rfl | exact LB_le (by omega)); exact rfl; infer_instance; clear hp; (try clear w1); intro w1 hp)
          | ((with_reducible apply sx_index_one); exact za rfl; exact zk rfl; infer_instance; infer_instance; omega; omega; (first | exact rfl | (go_simp; done)); simp only [zp, zq, z0, z1])
          | ((with_reducible apply sx_index_agg); exact za rfl; exact zk rfl; infer_instance; infer_instance; omega; omega; ((try simp only [m0, Int.reduceToNat, m1, m2, Nat.reduceMul, m3, m4, n5, n1, n2, n3, n4, n6]); exact rfl); simp only [zp, zq, z0, z1])
          | ((with_reducible refine sx_call hp (L00'.out _) ?_); clear hp; (try clear w1); intro w1 hp))
            go_roundw
            case rel => exact ⟨1, _, by omega, rfl, by go_num, hp⟩
            case measure => simp [intOf]
        · cases hF : lt 1 0
          · have L10' := L10
            rw [hF] at L10'
            go_wp2_with (first
          | ((with_reducible apply sx_box hp); exact za rfl; exact rfl; clear hp; (try clear w1); intro g w1 hp; simp only [zp, zq, z0, z1])
          | ((with_reducible apply sx_alloc hp); infer_instance; exact rfl; clear hp; (try clear w1); intro g w1 hp; simp only [zp, zq, z0, z1])
          | ((with_reducible apply sx_load_agg hp); exact zt rfl; infer_instance; infer_instance; (first | exact zl rfl | exact LB_le (by omega)); (first | (with_reducible exact LB_set (by omega)) | (simp only [n0, Nat.reduceAdd, n1, n2, n3, n4, n5, n6, n7, n8, n9]; try rfl)); simp only [zp, zq, z0, z1])
          | ((with_reducible apply sx_load_one hp); exact zt rfl; infer_instance; infer_instance; (first | exact zio rfl | exact LB_get (by omega)); simp only [zp, zq, z0, z1])
          | ((with_reducible apply sx_store hp); exact zt rfl; exact za rfl; exact rfl; (first | exact AggTy.size | exact OneTy.size); exact rfl; infer_instance; (first | (with_reducible exact LB_set (by omega)) | (simp only [n0, Nat.reduceAdd, n1, n2, n3, n4, n5, n6, n7, n8, n9]; try rfl)); (first | exact zl rfl | exact LB_le (by omega)); exact rfl; infer_instance; clear hp; (try clear w1); intro w1 hp)
          | ((with_reducible apply sx_index_one); exact za rfl; exact zk rfl; infer_instance; infer_instance; omega; omega; (first | exact rfl | (go_simp; done)); simp only [zp, zq, z0, z1])
          | ((with_reducible apply sx_index_agg); exact za rfl; exact zk rfl; infer_instance; infer_instance; omega; omega; ((try simp only [m0, Int.reduceToNat, m1, m2, Nat.reduceMul, m3, m4, n5, n1, n2, n3, n4, n6]); exact rfl); simp only [zp, zq, z0, z1])
          | ((with_reducible refine sx_call hp (L10'.out _) ?_); clear hp; (try clear w1); intro w1 hp))
            go_roundw
            case rel =>
              refine ⟨2, by omega, by go_num, fun i hi => ?_, hp⟩
              rcases Nat.lt_or_ge i 1 with h | h
              · exact Hlow.out i h
              · obtain rfl : i = 1 := by omega
                assumption
            case measure => simp [intOf]
          · have L10' := L10
            rw [hF] at L10'
            go_wp2_with (first
          | ((with_reducible apply sx_box hp); exact za rfl; exact rfl; clear hp; (try clear w1); intro g w1 hp; simp only [zp, zq, z0, z1])
          | ((with_reducible apply sx_alloc hp); infer_instance; exact rfl; clear hp; (try clear w1); intro g w1 hp; simp only [zp, zq, z0, z1])
          | ((with_reducible apply sx_load_agg hp); exact zt rfl; infer_instance; infer_instance; (first | exact zl rfl | exact LB_le (by omega)); (first | (with_reducible exact LB_set (by omega)) | (simp only [n0, Nat.reduceAdd, n1, n2, n3, n4, n5, n6, n7, n8, n9]; try rfl)); simp only [zp, zq, z0, z1])
          | ((with_reducible apply sx_load_one hp); exact zt rfl; infer_instance; infer_instance; (first | exact zio rfl | exact LB_get (by omega)); simp only [zp, zq, z0, z1])
          | ((with_reducible apply sx_store hp); exact zt rfl; exact za rfl; exact rfl; (first | exact AggTy.size | exact OneTy.size); exact rfl; infer_instance; (first | (with_reducible exact LB_set (by omega)) | (simp only [n0, Nat.reduceAdd, n1, n2, n3, n4, n5, n6, n7, n8, n9]; try rfl)); (first | exact zl rfl | exact LB_le (by omega)); exact rfl; infer_instance; clear hp; (try clear w1); intro w1 hp)
          | ((with_reducible apply sx_index_one); exact za rfl; exact zk rfl; infer_instance; infer_instance; omega; omega; (first | exact rfl | (go_simp; done)); simp only [zp, zq, z0, z1])
          | ((with_reducible apply sx_index_agg); exact za rfl; exact zk rfl; infer_instance; infer_instance; omega; omega; ((try simp only [m0, Int.reduceToNat, m1, m2, Nat.reduceMul, m3, m4, n5, n1, n2, n3, n4, n6]); exact rfl); simp only [zp, zq, z0, z1])
          | ((with_reducible refine sx_call hp (L10'.out _) ?_); clear hp; (try clear w1); intro w1 hp))
            go_roundw
            case rel => exact ⟨1, _, by omega, rfl, by go_num, hp⟩
            case measure => simp [intOf]
        · cases hF : lt 2 0
          · have L20' := L20
            rw [hF] at L20'
            go_wp2_with (first
          | ((with_reducible apply sx_box hp); exact za rfl; exact rfl; clear hp; (try clear w1); intro g w1 hp; simp only [zp, zq, z0, z1])
          | ((with_reducible apply sx_alloc hp); infer_instance; exact rfl; clear hp; (try clear w1); intro g w1 hp; simp only [zp, zq, z0, z1])
          | ((with_reducible apply sx_load_agg hp); exact zt rfl; infer_instance; infer_instance; (first | exact zl rfl | exact LB_le (by omega)); (first | (with_reducible exact LB_set (by omega)) | (simp only [n0, Nat.reduceAdd, n1, n2, n3, n4, n5, n6, n7, n8, n9]; try rfl)); simp only [zp, zq, z0, z1])
          | ((with_reducible apply sx_load_one hp); exact zt rfl; infer_instance; infer_instance; (first | exact zio rfl | exact LB_get (by omega)); simp only [zp, zq, z0, z1])
          | ((with_reducible apply sx_store hp); exact zt rfl; exact za rfl; exact rfl; (first | exact AggTy.size | exact OneTy.size); exact rfl; infer_instance; (first | (with_reducible exact LB_set (by omega)) | (simp only [n0, Nat.reduceAdd, n1, n2, n3, n4, n5, n6, n7, n8, n9]; try rfl)); (first | exact zl rfl | exact LB_le (by omega)); exact rfl; infer_instance; clear hp; (try clear w1); intro w1 hp)
          | ((with_reducible apply sx_index_one); exact za rfl; exact zk rfl; infer_instance; infer_instance; omega; omega; (first | exact rfl | (go_simp; done)); simp only [zp, zq, z0, z1])
          | ((with_reducible apply sx_index_agg); exact za rfl; exact zk rfl; infer_instance; infer_instance; omega; omega; ((try simp only [m0, Int.reduceToNat, m1, m2, Nat.reduceMul, m3, m4, n5, n1, n2, n3, n4, n6]); exact rfl); simp only [zp, zq, z0, z1])
          | ((with_reducible refine sx_call hp (L20'.out _) ?_); clear hp; (try clear w1); intro w1 hp))
            go_roundw
            case rel =>
              refine ⟨3, by omega, by go_num, fun i hi => ?_, hp⟩
              rcases Nat.lt_or_ge i 2 with h | h
              · exact Hlow.out i h
              · obtain rfl : i = 2 := by omega
                assumption
            case measure => simp [intOf]
          · have L20' := L20
            rw [hF] at L20'
            go_wp2_with (first
          | ((with_reducible apply sx_box hp); exact za rfl; exact rfl; clear hp; (try clear w1); intro g w1 hp; simp only [zp, zq, z0, z1])
          | ((with_reducible apply sx_alloc hp); infer_instance; exact rfl; clear hp; (try clear w1); intro g w1 hp; simp only [zp, zq, z0, z1])
          | ((with_reducible apply sx_load_agg hp); exact zt rfl; infer_instance; infer_instance; (first | exact zl rfl | exact LB_le (by omega)); (first | (with_reducible exact LB_set (by omega)) | (simp only [n0, Nat.reduceAdd, n1, n2, n3, n4, n5, n6, n7, n8, n9]; try rfl)); simp only [zp, zq, z0, z1])
          | ((with_reducible apply sx_load_one hp); exact zt rfl; infer_instance; infer_instance; (first | exact zio rfl | exact LB_get (by omega)); simp only [zp, zq, z0, z1])
          | ((with_reducible apply sx_store hp); exact zt rfl; exact za rfl; exact rfl; (first | exact AggTy.size | exact OneTy.size); exact rfl; infer_instance; (first | (with_reducible exact LB_set (by omega)) | (simp only [n0, Nat.reduceAdd, n1, n2, n3, n4, n5, n6, n7, n8, n9]; try rfl)); (first | exact zl rfl | exact LB_le (by omega)); exact rfl; infer_instance; clear hp; (try clear w1); intro w1 hp)
          | ((with_reducible apply sx_index_one); exact za rfl; exact zk rfl; infer_instance; infer_instance; omega; omega; (first | exact rfl | (go_simp; done)); simp only [zp, zq, z0, z1])
          | ((with_reducible apply sx_index_agg); exact za rfl; exact zk rfl; infer_instance; infer_instance; omega; omega; ((try simp only [m0, Int.reduceToNat, m1, m2, Nat.reduceMul, m3, m4, n5, n1, n2, n3, n4, n6]); exact rfl); simp only [zp, zq, z0, z1])
          | ((with_reducible refine sx_call hp (L20'.out _) ?_); clear hp; (try clear w1); intro w1 hp))
            go_roundw
            case rel => exact ⟨1, _, by omega, rfl, by go_num, hp⟩
            case measure => simp [intOf]
        · exfalso
          rcases T0 with h | h | h
          · rw [Hlow.out 0 (by omega)] at h; cases h
          · rw [Hlow.out 1 (by omega)] at h; cases h
          · rw [Hlow.out 2 (by omega)] at h; cases h
    · obtain rfl : c = 1 := by omega
      clear hc
      go_wp2_with (first
          | ((with_reducible apply sx_box hp); exact za rfl; exact rfl; clear hp; (try clear w1); intro g w1 hp; simp only [zp, zq, z0, z1])
          | ((with_reducible apply sx_alloc hp); infer_instance; exact rfl; clear hp; (try clear w1); intro g w1 hp; simp only [zp, zq, z0, z1])
          | ((with_reducible apply sx_load_agg hp); exact zt rfl; infer_instance; infer_instance; (first | exact zl rfl | exact LB_le (by omega)); (first | (with_reducible exact LB_set (by omega)) | (simp only [n0, Nat.reduceAdd, n1, n2, n3, n4, n5, n6, n7, n8, n9]; try rfl)); simp only [zp, zq, z0, z1])
          | ((with_reducible apply sx_load_one hp); exact zt rfl; infer_instance; infer_instance; (first | exact zio rfl | exact LB_get (by omega)); simp only [zp, zq, z0, z1])
          | ((with_reducible apply sx_store hp); exact zt rfl; exact za rfl; exact rfl; (first | exact AggTy.size | exact OneTy.size); exact rfl; infer_instance; (first | (with_reducible exact LB_set (by omega)) | (simp only [n0, Nat.reduceAdd, n1, n2, n3, n4, n5, n6, n7, n8, n9]; try rfl)); (first | exact zl rfl | exact LB_le (by omega)); exact rfl; infer_instance; clear hp; (try clear w1); intro w1 hp)
          | ((with_reducible apply sx_index_one); exact za rfl; exact zk rfl; infer_instance; infer_instance; omega; omega; (first | exact rfl | (go_simp; done)); simp only [zp, zq, z0, z1])
          | ((with_reducible apply sx_index_agg); exact za rfl; exact zk rfl; infer_instance; infer_instance; omega; omega; ((try simp only [m0, Int.reduceToNat, m1, m2, Nat.reduceMul, m3, m4, n5, n1, n2, n3, n4, n6]); exact rfl); simp only [zp, zq, z0, z1]))
      go_loopw [19] (fun jv wr => ∃ j : Nat, j ≤ 3 ∧ jv = .int .i64 j ∧ (∀ i, i < j → lt i 1 = false) ∧ Hp [] w [⟨gl, 91, [.int .i64 x, .int .i64 y, .int .i64 u]⟩, ⟨go, 24, [.int .i64 0, .int .i64 0, .int .i64 0]⟩, ⟨gn, 24, [.int .i64 x, .int .i64 y, .int .i64 u]⟩] wr) (fun jv _ => 3 - (intOf jv).toNat)
      case atStart => exact ⟨0, by omega, rfl, fun i hi => absurd hi (by omega), hp⟩
      case round =>
        clear hp
        obtain ⟨j, hj, rfl, hlow, hp⟩ := hrel
        have Hlow := Lib.hid hlow
        clear hlow
        have hjs : j = 0 ∨ j = 1 ∨ j = 2 ∨ j = 3 := by omega
        rcases hjs with rfl | rfl | rfl | rfl
        · skip
          have hF : lt 0 1 = false := F0
          have L01' := L01
          rw [hF] at L01'
          go_wp2_with (first
          | ((with_reducible apply sx_box hp); exact za rfl; exact rfl; clear hp; (try clear w1); intro g w1 hp; simp only [zp, zq, z0, z1])
          | ((with_reducible apply sx_alloc hp); infer_instance; exact rfl; clear hp; (try clear w1); intro g w1 hp; simp only [zp, zq, z0, z1])
          | ((with_reducible apply sx_load_agg hp); exact zt rfl; infer_instance; infer_instance; (first | exact zl rfl | exact LB_le (by omega)); (first | (with_reducible exact LB_set (by omega)) | (simp only [n0, Nat.reduceAdd, n1, n2, n3, n4, n5, n6, n7, n8, n9]; try rfl)); simp only [zp, zq, z0, z1])
          | ((with_reducible apply sx_load_one hp); exact zt rfl; infer_instance; infer_instance; (first | exact zio rfl | exact LB_get (by omega)); simp only [zp, zq, z0, z1])
          | ((with_reducible apply sx_store hp); exact zt rfl; exact za rfl; exact rfl; (first | exact AggTy.size | exact OneTy.size); exact rfl; infer_instance; (first | (with_reducible exact LB_set (by omega)) | (simp only [n0, Nat.reduceAdd, n1, n2, n3, n4, n5, n6, n7, n8, n9]; try rfl)); (first | exact zl rfl | exact LB_le (by omega)); exact rfl; infer_instance; clear hp; (try clear w1); intro w1 hp)
          | ((with_reducible apply sx_index_one); exact za rfl; exact zk rfl; infer_instance; infer_instance; omega; omega; (first | exact rfl | (go_simp; done)); simp only [zp, zq, z0, z1])
          | ((with_reducible apply sx_index_agg); exact za rfl; exact zk rfl; infer_instance; infer_instance; omega; omega; ((try simp only [m0, Int.reduceToNat, m1, m2, Nat.reduceMul, m3, m4, n5, n1, n2, n3, n4, n6]); exact rfl); simp only [zp, zq, z0, z1])
          | ((with_reducible refine sx_call hp (L01'.out _) ?_); clear hp; (try clear w1); intro w1 hp))
          go_roundw
          case rel =>
            refine ⟨1, by omega, by go_num, fun i hi => ?_, hp⟩
            rcases Nat.lt_or_ge i 0 with h | h
            · exact Hlow.out i h
            · obtain rfl : i = 0 := by omega
              assumption
          case measure => simp [intOf]
        · skip
          have hF : lt 1 1 = false := F1
          have L11' := L11
          rw [hF] at L11'
          go_wp2_with (first
          | ((with_reducible apply sx_box hp); exact za rfl; exact rfl; clear hp; (try clear w1); intro g w1 hp; simp only [zp, zq, z0, z1])
          | ((with_reducible apply sx_alloc hp); infer_instance; exact rfl; clear hp; (try clear w1); intro g w1 hp; simp only [zp, zq, z0, z1])
          | ((with_reducible apply sx_load_agg hp); exact zt rfl; infer_instance; infer_instance; (first | exact zl rfl | exact LB_le (by omega)); (first | (with_reducible exact LB_set (by omega)) | (simp only [n0, Nat.reduceAdd, n1, n2, n3, n4, n5, n6, n7, n8, n9]; try rfl)); simp only [zp, zq, z0, z1])
          | ((with_reducible apply sx_load_one hp); exact zt rfl; infer_instance; infer_instance; (first | exact zio rfl | exact LB_get (by omega)); simp only [zp, zq, z0, z1])
          | ((with_reducible apply sx_store hp); exact zt rfl; exact za rfl; exact rfl; (first | exact AggTy.size | exact OneTy.size); exact rfl; infer_instance; (first | (with_reducible exact LB_set (by omega)) | (simp only [n0, Nat.reduceAdd, n1, n2, n3, n4, n5, n6, n7, n8, n9]; try rfl)); (first | exact zl rfl | exact LB_le (by omega)); exact rfl; infer_instance; clear hp; (try clear w1); intro w1 hp)
          | ((with_reducible apply sx_index_one); exact za rfl; exact zk rfl; infer_instance; infer_instance; omega; omega; (first | exact rfl | (go_simp; done)); simp only [zp, zq, z0, z1])
          | ((with_reducible apply sx_index_agg); exact za rfl; exact zk rfl; infer_instance; infer_instance; omega; omega; ((try simp only [m0, Int.reduceToNat, m1, m2, Nat.reduceMul, m3, m4, n5, n1, n2, n3, n4, n6]); exact rfl); simp only [zp, zq, z0, z1])
          | ((with_reducible refine sx_call hp (L11'.out _) ?_); clear hp; (try clear w1); intro w1 hp))
          go_roundw
          case rel =>
            refine ⟨2, by omega, by go_num, fun i hi => ?_, hp⟩
            rcases Nat.lt_or_ge i 1 with h | h
            · exact Hlow.out i h
            · obtain rfl : i = 1 := by omega
              assumption
          case measure => simp [intOf]
        · skip
          have hF : lt 2 1 = false := F2
          have L21' := L21
          rw [hF] at L21'
          go_wp2_with (first
          | ((with_reducible apply sx_box hp); exact za rfl; exact rfl; clear hp; (try clear w1); intro g w1 hp; simp only [zp, zq, z0, z1])
          | ((with_reducible apply sx_alloc hp); infer_instance; exact rfl; clear hp; (try clear w1); intro g w1 hp; simp only [zp, zq, z0, z1])
          | ((with_reducible apply sx_load_agg hp); exact zt rfl; infer_instance; infer_instance; (first | exact zl rfl | exact LB_le (by omega)); (first | (with_reducible exact LB_set (by omega)) | (simp only [n0, Nat.reduceAdd, n1, n2, n3, n4, n5, n6, n7, n8, n9]; try rfl)); simp only [zp, zq, z0, z1])
          | ((with_reducible apply sx_load_one hp); exact zt rfl; infer_instance; infer_instance; (first | exact zio rfl | exact LB_get (by omega)); simp only [zp, zq, z0, z1])
          | ((with_reducible apply sx_store hp); exact zt rfl; exact za rfl; exact rfl; (first | exact AggTy.size | exact OneTy.size); exact rfl; infer_instance; (first | (with_reducible exact LB_set (by omega)) | (simp only [n0, Nat.reduceAdd, n1, n2, n3, n4, n5, n6, n7, n8, n9]; try rfl)); (first | exact zl rfl | exact LB_le (by omega)); exact rfl; infer_instance; clear hp; (try clear w1); intro w1 hp)
          | ((with_reducible apply sx_index_one); exact za rfl; exact zk rfl; infer_instance; infer_instance; omega; omega; (first | exact rfl | (go_simp; done)); simp only [zp, zq, z0, z1])
          | ((with_reducible apply sx_index_agg); exact za rfl; exact zk rfl; infer_instance; infer_instance; omega; omega; ((try simp only [m0, Int.reduceToNat, m1, m2, Nat.reduceMul, m3, m4, n5, n1, n2, n3, n4, n6]); exact rfl); simp only [zp, zq, z0, z1])
          | ((with_reducible refine sx_call hp (L21'.out _) ?_); clear hp; (try clear w1); intro w1 hp))
          go_roundw
          case rel =>
            refine ⟨3, by omega, by go_num, fun i hi => ?_, hp⟩
            rcases Nat.lt_or_ge i 2 with h | h
            · exact Hlow.out i h
            · obtain rfl : i = 2 := by omega
              assumption
          case measure => simp [intOf]
        · skip
          go_wp2_with (first
          | ((with_reducible apply sx_box hp); exact za rfl; exact rfl; clear hp; (try clear w1); intro g w1 hp; simp only [zp, zq, z0, z1])
          | ((with_reducible apply sx_alloc hp); infer_instance; exact rfl; clear hp; (try clear w1); intro g w1 hp; simp only [zp, zq, z0, z1])
          | ((with_reducible apply sx_load_agg hp); exact zt rfl; infer_instance; infer_instance; (first | exact zl rfl | exact LB_le (by omega)); (first | (with_reducible exact LB_set (by omega)) | (simp only [n0, Nat.reduceAdd, n1, n2, n3, n4, n5, n6, n7, n8, n9]; try rfl)); simp only [zp, zq, z0, z1])
          | ((with_reducible apply sx_load_one hp); exact zt rfl; infer_instance; infer_instance; (first | exact zio rfl | exact LB_get (by omega)); simp only [zp, zq, z0, z1])
          | ((with_reducible apply sx_store hp); exact zt rfl; exact za rfl; exact rfl; (first | exact AggTy.size | exact OneTy.size); exact rfl; infer_instance; (first | (with_reducible exact LB_set (by omega)) | (simp only [n0, Nat.reduceAdd, n1, n2, n3, n4, n5, n6, n7, n8, n9]; try rfl)); (first | exact zl rfl | exact LB_le (by omega)); exact rfl; infer_instance; clear hp; (try clear w1); intro w1 hp)
          | ((with_reducible apply sx_index_one); exact za rfl; exact zk rfl; infer_instance; infer_instance; omega; omega; (first | exact rfl | (go_simp; done)); simp only [zp, zq, z0, z1])
          | ((with_reducible apply sx_index_agg); exact za rfl; exact zk rfl; infer_instance; infer_instance; omega; omega; ((try simp only [m0, Int.reduceToNat, m1, m2, Nat.reduceMul, m3, m4, n5, n1, n2, n3, n4, n6]); exact rfl); simp only [zp, zq, z0, z1]))
          exact bodyPost_ret (results_one rfl ⟨_, rfl, run_load_agg hp (Nat.le_of_ble_eq_true rfl)⟩) rfl ⟨rfl, hp.keep⟩
set_option maxHeartbeats 8000000 in
theorem axis2 (x y u : Int) (lt : Nat → Nat → Bool)
    (L00 : Hid (∀ w, Calls Try.prog 59 #[.int .i64 x, .int .i64 x] w (Ret (.bool (lt 0 0)) w)))
    (L01 : Hid (∀ w, Calls Try.prog 59 #[.int .i64 x, .int .i64 y] w (Ret (.bool (lt 0 1)) w)))
    (L02 : Hid (∀ w, Calls Try.prog 59 #[.int .i64 x, .int .i64 u] w (Ret (.bool (lt 0 2)) w)))
    (L10 : Hid (∀ w, Calls Try.prog 59 #[.int .i64 y, .int .i64 x] w (Ret (.bool (lt 1 0)) w)))
    (L11 : Hid (∀ w, Calls Try.prog 59 #[.int .i64 y, .int .i64 y] w (Ret (.bool (lt 1 1)) w)))
    (L12 : Hid (∀ w, Calls Try.prog 59 #[.int .i64 y, .int .i64 u] w (Ret (.bool (lt 1 2)) w)))
    (L20 : Hid (∀ w, Calls Try.prog 59 #[.int .i64 u, .int .i64 x] w (Ret (.bool (lt 2 0)) w)))
    (L21 : Hid (∀ w, Calls Try.prog 59 #[.int .i64 u, .int .i64 y] w (Ret (.bool (lt 2 1)) w)))
    (L22 : Hid (∀ w, Calls Try.prog 59 #[.int .i64 u, .int .i64 u] w (Ret (.bool (lt 2 2)) w)))
    (F0 : lt 0 2 = false)
    (F1 : lt 1 2 = false)
    (F2 : lt 2 2 = false)
    (T0 : lt 0 0 = true ∨ lt 1 0 = true ∨ lt 2 0 = true)
    (T1 : lt 0 1 = true ∨ lt 1 1 = true ∨ lt 2 1 = true)
    (w : World) : Calls Try.prog 31 #[PV ⟨x, y, u⟩] w (Ret (PV ⟨0, 0, 4294967296⟩) w) := by
  go_enter Try.func31, Try.ntmps31
  have hp := Hp.start [] w
  go_wp2_with (first
          | ((with_reducible apply sx_box hp); exact za rfl; exact rfl; clear hp; (try clear w1); intro g w1 hp; simp only [zp, zq, z0, z1])
          | ((with_reducible apply sx_alloc hp); infer_instance; exact rfl; clear hp; (try clear w1); intro g w1 hp; simp only [zp, zq, z0, z1])
          | ((with_reducible apply sx_load_agg hp); exact zt rfl; infer_instance; infer_instance; (first | exact zl rfl | exact LB_le (by omega)); (first | (with_reducible exact LB_set (by omega)) | (simp only [n0, Nat.reduceAdd, n1, n2, n3, n4, n5, n6, n7, n8, n9]; try rfl)); simp only [zp, zq, z0, z1])
          | ((with_reducible apply sx_load_one hp); exact zt rfl; infer_instance; infer_instance; (first | exact zio rfl | exact LB_get (by omega)); simp only [zp, zq, z0, z1])
          | ((with_reducible apply sx_store hp); exact zt rfl; exact za rfl; exact rfl; (first | exact AggTy.size | exact OneTy.size); exact rfl; infer_instance; (first | (with_reducible exact LB_set (by omega)) | (simp only [n0, Nat.reduceAdd, n1, n2, n3, n4, n5, n6, n7, n8, n9]; try rfl)); (first | exact zl rfl | exact LB_le (by omega)); exact rfl; infer_instance; clear hp; (try clear w1); intro w1 hp)
          | ((with_reducible apply sx_index_one); exact za rfl; exact zk rfl; infer_instance; infer_instance; omega; omega; (first | exact rfl | (go_simp; done)); simp only [zp, zq, z0, z1])
          | ((with_reducible apply sx_index_agg); exact za rfl; exact zk rfl; infer_instance; infer_instance; omega; omega; ((try simp only [m0, Int.reduceToNat, m1, m2, Nat.reduceMul, m3, m4, n5, n1, n2, n3, n4, n6]); exact rfl); simp only [zp, zq, z0, z1]))
  refine wp_scope_straight ?_
  go_wp2_with (first
          | ((with_reducible apply sx_box hp); exact za rfl; exact rfl; clear hp; (try clear w1); intro g w1 hp; simp only [zp, zq, z0, z1])
          | ((with_reducible apply sx_alloc hp); infer_instance; exact rfl; clear hp; (try clear w1); intro g w1 hp; simp only [zp, zq, z0, z1])
          | ((with_reducible apply sx_load_agg hp); exact zt rfl; infer_instance; infer_instance; (first | exact zl rfl | exact LB_le (by omega)); (first | (with_reducible exact LB_set (by omega)) | (simp only [n0, Nat.reduceAdd, n1, n2, n3, n4, n5, n6, n7, n8, n9]; try rfl)); simp only [zp, zq, z0, z1])
          | ((with_reducible apply sx_load_one hp); exact zt rfl; infer_instance; infer_instance; (first | exact zio rfl | exact LB_get (by omega)); simp only [zp, zq, z0, z1])
          | ((with_reducible apply sx_store hp); exact zt rfl; exact za rfl; exact rfl; (first | exact AggTy.size | exact OneTy.size); exact rfl; infer_instance; (first | (with_reducible exact LB_set (by omega)) | (simp only [n0, Nat.reduceAdd, n1, n2, n3, n4, n5, n6, n7, n8, n9]; try rfl)); (first | exact zl rfl | exact LB_le (by omega)); exact rfl; infer_instance; clear hp; (try clear w1); intro w1 hp)
          | ((with_reducible apply sx_index_one); exact za rfl; exact zk rfl; infer_instance; infer_instance; omega; omega; (first | exact rfl | (go_simp; done)); simp only [zp, zq, z0, z1])
          | ((with_reducible apply sx_index_agg); exact za rfl; exact zk rfl; infer_instance; infer_instance; omega; omega; ((try simp only [m0, Int.reduceToNat, m1, m2, Nat.reduceMul, m3, m4, n5, n1, n2, n3, n4, n6]); exact rfl); simp only [zp, zq, z0, z1]))
  rename_i gn go K9 hK9
  obtain ⟨gl, rfl⟩ : ∃ k : Nat, k = g := ⟨_, rfl⟩
  refine wp_label ?_
  go_wp2_with (first
          | ((with_reducible apply sx_box hp); exact za rfl; exact rfl; clear hp; (try clear w1); intro g w1 hp; simp only [zp, zq, z0, z1])
          | ((with_reducible apply sx_alloc hp); infer_instance; exact rfl; clear hp; (try clear w1); intro g w1 hp; simp only [zp, zq, z0, z1])
          | ((with_reducible apply sx_load_agg hp); exact zt rfl; infer_instance; infer_instance; (first | exact zl rfl | exact LB_le (by omega)); (first | (with_reducible exact LB_set (by omega)) | (simp only [n0, Nat.reduceAdd, n1, n2, n3, n4, n5, n6, n7, n8, n9]; try rfl)); simp only [zp, zq, z0, z1])
          | ((with_reducible apply sx_load_one hp); exact zt rfl; infer_instance; infer_instance; (first | exact zio rfl | exact LB_get (by omega)); simp only [zp, zq, z0, z1])
          | ((with_reducible apply sx_store hp); exact zt rfl; exact za rfl; exact rfl; (first | exact AggTy.size | exact OneTy.size); exact rfl; infer_instance; (first | (with_reducible exact LB_set (by omega)) | (simp only [n0, Nat.reduceAdd, n1, n2, n3, n4, n5, n6, n7, n8, n9]; try rfl)); (first | exact zl rfl | exact LB_le (by omega)); exact rfl; infer_instance; clear hp; (try clear w1); intro w1 hp)
          | ((with_reducible apply sx_index_one); exact za rfl; exact zk rfl; infer_instance; infer_instance; omega; omega; (first | exact rfl | (go_simp; done)); simp only [zp, zq, z0, z1])
          | ((with_reducible apply sx_index_agg); exact za rfl; exact zk rfl; infer_instance; infer_instance; omega; omega; ((try simp only [m0, Int.reduceToNat, m1, m2, Nat.reduceMul, m3, m4, n5, n1, n2, n3, n4, n6]); exact rfl); simp only [zp, zq, z0, z1]))
  go_loopw [15] (fun kv wr => ∃ (k : Nat) (c : Int), k ≤ 2 ∧ c = k ∧ kv = .int .i64 c ∧ Hp [] w [⟨gl, 91, [.int .i64 x, .int .i64 y, .int .i64 u]⟩, ⟨go, 24, [.int .i64 0, .int .i64 0, .int .i64 0]⟩, ⟨gn, 24, [.int .i64 x, .int .i64 y, .int .i64 u]⟩] wr) (fun kv _ => 3 - (intOf kv).toNat)
  case atStart => exact ⟨0, 0, by omega, rfl, rfl, hp⟩
  case round =>
    clear hp
    obtain ⟨k, c, hk, hc, rfl, hp⟩ := hrel
    have hks : k = 0 ∨ k = 1 ∨ k = 2 := by omega
    rcases hks with rfl | rfl | rfl
    · obtain rfl : c = 0 := by omega
      clear hc
      go_wp2_with (first
          | ((with_reducible apply sx_box hp); exact za rfl; exact rfl; clear hp; (try clear w1); intro g w1 hp; simp only [zp, zq, z0, z1])
          | ((with_reducible apply sx_alloc hp); infer_instance; exact rfl; clear hp; (try clear w1); intro g w1 hp; simp only [zp, zq, z0, z1])
          | ((with_reducible apply sx_load_agg hp); exact zt rfl; infer_instance; infer_instance; (first | exact zl rfl | exact LB_le (by omega)); (first | (with_reducible exact LB_set (by omega)) | (simp only [n0, Nat.reduceAdd, n1, n2, n3, n4, n5, n6, n7, n8, n9]; try rfl)); simp only [zp, zq, z0, z1])
          | ((with_reducible apply sx_load_one hp); exact zt rfl; infer_instance; infer_instance; (first | exact zio rfl | exact LB_get (by omega)); simp only [zp, zq, z0, z1])
          | ((with_reducible apply sx_store hp); exact zt rfl; exact za rfl; exact rfl; (first | exact AggTy.size | exact OneTy.size); exact rfl; infer_instance; (first | (with_reducible exact LB_set (by omega)) | (simp only [n0, Nat.reduceAdd, n1, n2, n3, n4, n5, n6, n7, n8, n9]; try rfl)); (first | exact zl rfl | exact LB_le (by omega)); exact rfl; infer_instance; clear hp; (try clear w1); intro w1 hp)
          | ((with_reducible apply sx_index_one); exact za rfl; exact zk rfl; infer_instance; infer_instance; omega; omega; (first | exact rfl | (go_simp; done)); simp only [zp, zq, z0, z1])
          | ((with_reducible apply sx_index_agg); exact za rfl; exact zk rfl; infer_instance; infer_instance; omega; omega; ((try simp only [m0, Int.reduceToNat, m1, m2, Nat.reduceMul, m3, m4, n5, n1, n2, n3, n4, n6]); exact rfl); simp only [zp, zq, z0, z1]))
      go_loopw [19] (fun jv wr => ∃ j : Nat, j ≤ 3 ∧ jv = .int .i64 j ∧ (∀ i, i < j → lt i 0 = false) ∧ Hp [] w [⟨gl, 91, [.int .i64 x, .int .i64 y, .int .i64 u]⟩, ⟨go, 24, [.int .i64 0, .int .i64 0, .int .i64 0]⟩, ⟨gn, 24, [.int .i64 x, .int .i64 y, .int .i64 u]⟩] wr) (fun jv _ => 3 - (intOf jv).toNat)
      case atStart => exact ⟨0, by omega, rfl, fun i hi => absurd hi (by omega), hp⟩
      case round =>
        clear hp
        obtain ⟨j, hj, rfl, hlow, hp⟩ := hrel
        have Hlow := Lib.hid hlow
        clear hlow
        have hjs : j = 0 ∨ j = 1 ∨ j = 2 ∨ j = 3 := by omega
        rcases hjs with rfl | rfl | rfl | rfl
        · cases hF : lt 0 0
          · have L00' := L00
            rw [hF] at L00'
            go_wp2_with (first
          | ((with_reducible apply sx_box hp); exact za rfl; exact rfl; clear hp; (try clear w1); intro g w1 hp; simp only [zp, zq, z0, z1])
          | ((with_reducible apply sx_alloc hp); infer_instance; exact rfl; clear hp; (try clear w1); intro g w1 hp; simp only [zp, zq, z0, z1])
          | ((with_reducible apply sx_load_agg hp); exact zt rfl; infer_instance; infer_instance; (first | exact zl rfl | exact LB_le (by omega)); (first | (with_reducible exact LB_set (by omega)) | (simp only [n0, Nat.reduceAdd, n1, n2, n3, n4, n5, n6, n7, n8, n9]; try rfl)); simp only [zp, zq, z0, z1])
          | ((with_reducible apply sx_load_one hp); exact zt rfl; infer_instance; infer_instance; (first | exact zio rfl | exact LB_get (by omega)); simp only [zp, zq, z0, z1])
          | ((with_reducible apply sx_store hp); exact zt rfl; exact za rfl; exact rfl; (first | exact AggTy.size | exact OneTy.size); exact rfl; infer_instance; (first | (with_reducible exact LB_set (by omega)) | (simp only [n0, Nat.reduceAdd, n1, n2, n3, n4, n5, n6, n7, n8, n9]; try rfl)); (first | exact zl rfl | exact LB_le (by omega)); exact rfl; infer_instance; clear hp; (try clear w1); intro w1 hp)
          | ((with_reducible apply sx_index_one); exact za rfl; exact zk rfl; infer_instance; infer_instance; omega; omega; (first | exact rfl | (go_simp; done)); simp only [zp, zq, z0, z1])
          | ((with_reducible apply sx_index_agg); exact za rfl; exact zk rfl; infer_instance; infer_instance; omega; omega; ((try simp only [m0, Int.reduceToNat, m1, m2, Nat.reduceMul, m3, m4, n5, n1, n2, n3, n4, n6]); exact rfl); simp only [zp, zq, z0, z1])
          | ((with_reducible refine sx_call hp (L00'.out _) ?_); clear hp; (try clear w1); intro w1 hp))
            go_roundw
            case rel =>
              refine ⟨1, by omega, by go_num, fun i hi => ?_, hp⟩
              rcases Nat.lt_or_ge i 0 with h | h
              · exact Hlow.out i h
              · obtain rfl : i = 0 := by omega
                assumption
            case measure => simp [intOf]
          · have L00' := L00
            rw [hF] at L00'
            go_wp2_with (first
          | ((with_reducible apply sx_box hp); exact za rfl; exact rfl; clear hp; (try clear w1); intro g w1 hp; simp only [zp, zq, z0, z1])
          | ((with_reducible apply sx_alloc hp); infer_instance; exact rfl; clear hp; (try clear w1); intro g w1 hp; simp only [zp, zq, z0, z1])
          | ((with_reducible apply sx_load_agg hp); exact zt rfl; infer_instance; infer_instance; (first | exact zl rfl | exact LB_le (by omega)); (first | (with_reducible exact LB_set (by omega)) | (simp only [n0, Nat.reduceAdd, n1, n2, n3, n4, n5, n6, n7, n8, n9]; try rfl)); simp only [zp, zq, z0, z1])
          | ((with_reducible apply sx_load_one hp); exact zt rfl; infer_instance; infer_instance; (first | exact zio rfl | exact LB_get (by omega)); simp only [zp, zq, z0, z1])
          | ((with_reducible apply sx_store hp); exact zt rfl; exact za rfl; exact rfl; (first | exact AggTy.size | exact OneTy.size); exact rfl; infer_instance; (first | (with_reducible exact LB_set (by omega)) | (simp only [n0, Nat.reduceAdd, n1, n2, n3, n4, n5, n6, n7, n8, n9]; try rfl)); (first | exact zl rfl | exact LB_le (by omega)); exact rfl; infer_instance; clear hp; (try clear w1); intro w1 hp)
          | ((with_reducible apply sx_index_one); exact za rfl; exact zk rfl; infer_instance; infer_instance; omega; omega; (first | exact rfl | (go_simp; done)); simp only [zp, zq, z0, z1])
          | ((with_reducible apply sx_index_agg); exact za rfl; exact zk rfl; infer_instance; infer_instance; omega; omega; ((try simp only [m0, Int.reduceToNat, m1, m2, Nat.reduceMul, m3, m4, n5, n1, n2, n3, n4, n6]); exact rfl); simp only [zp, zq, z0, z1])
          | ((with_reducible refine sx_call hp (L00'.out _) ?_); clear hp; (try clear w1); intro w1 hp))
            go_roundw
            case rel => exact ⟨1, _, by omega, rfl, by go_num, hp⟩
            case measure => simp [intOf]
        · cases hF : lt 1 0
          · have L10' := L10
            rw [hF] at L10'
            go_wp2_with (first
          | ((with_reducible apply sx_box hp); exact za rfl; exact rfl; clear hp; (try clear w1); intro g w1 hp; simp only [zp, zq, z0, z1])
          | ((with_reducible apply sx_alloc hp); infer_instance; exact rfl; clear hp; (try clear w1); intro g w1 hp; simp only [zp, zq, z0, z1])
          | ((with_reducible apply sx_load_agg hp); exact zt rfl; infer_instance; infer_instance; (first | exact zl rfl | exact LB_le (by omega)); (first | (with_reducible exact LB_set (by omega)) | (simp only [n0, Nat.reduceAdd, n1, n2, n3, n4, n5, n6, n7, n8, n9]; try rfl)); simp only [zp, zq, z0, z1])
          | ((with_reducible apply sx_load_one hp); exact zt rfl; infer_instance; infer_instance; (first | exact zio rfl | exact LB_get (by omega)); simp only [zp, zq, z0, z1])
          | ((with_reducible apply sx_store hp); exact zt rfl; exact za rfl; exact rfl; (first | exact AggTy.size | exact OneTy.size); exact rfl; infer_instance; (first | (with_reducible exact LB_set (by omega)) | (simp only [n0, Nat.reduceAdd, n1, n2, n3, n4, n5, n6, n7, n8, n9]; try rfl)); (first | exact zl rfl | exact LB_le (by omega)); exact rfl; infer_instance; clear hp; (try clear w1); intro w1 hp)
          | ((with_reducible apply sx_index_one); exact za rfl; exact zk rfl; infer_instance; infer_instance; omega; omega; (first | exact rfl | (go_simp; done)); simp only [zp, zq, z0, z1])
          | ((with_reducible apply sx_index_agg); exact za rfl; exact zk rfl; infer_instance; infer_instance; omega; omega; ((try simp only [m0, Int.reduceToNat, m1, m2, Nat.reduceMul, m3, m4, n5, n1, n2, n3, n4, n6]); exact rfl); simp only [zp, zq, z0, z1])
          | ((with_reducible refine sx_call hp (L10'.out _) ?_); clear hp; (try clear w1); intro w1 hp))
            go_roundw
            case rel =>
              refine ⟨2, by omega, by go_num, fun i hi => ?_, hp⟩
              rcases Nat.lt_or_ge i 1 with h | h
              · exact Hlow.out i h
              · obtain rfl : i = 1 := by omega
                assumption
            case measure => simp [intOf]
          · have L10' := L10
            rw [hF] at L10'
            go_wp2_with (first
          | ((with_reducible apply sx_box hp); exact za rfl; exact rfl; clear hp; (try clear w1); intro g w1 hp; simp only [zp, zq, z0, z1])
          | ((with_reducible apply sx_alloc hp); infer_instance; exact rfl; clear hp; (try clear w1); intro g w1 hp; simp only [zp, zq, z0, z1])
          | ((with_reducible apply sx_load_agg hp); exact zt rfl; infer_instance; infer_instance; (first | exact zl rfl | exact LB_le (by omega)); (first | (with_reducible exact LB_set (by omega)) | (simp only [n0, Nat.reduceAdd, n1, n2, n3, n4, n5, n6, n7, n8, n9]; try rfl)); simp only [zp, zq, z0, z1])
          | ((with_reducible apply sx_load_one hp); exact zt rfl; infer_instance; infer_instance; (first | exact zio rfl | exact LB_get (by omega)); simp only [zp, zq, z0, z1])
          | ((with_reducible apply sx_store hp); exact zt rfl; exact za rfl; exact rfl; (first | exact AggTy.size | exact OneTy.size); exact rfl; infer_instance; (first | (with_reducible exact LB_set (by omega)) | (simp only [n0, Nat.reduceAdd, n1, n2, n3, n4, n5, n6, n7, n8, n9]; try rfl)); (first | exact zl rfl | exact LB_le (by omega)); exact rfl; infer_instance; clear hp; (try clear w1); intro w1 hp)
          | ((with_reducible apply sx_index_one); exact za rfl; exact zk rfl; infer_instance; infer_instance; omega; omega; (first | exact rfl | (go_simp; done)); simp only [zp, zq, z0, z1])
          | ((with_reducible apply sx_index_agg); exact za rfl; exact zk rfl; infer_instance; infer_instance; omega; omega; ((try simp only [m0, Int.reduceToNat, m1, m2, Nat.reduceMul, m3, m4, n5, n1, n2, n3, n4, n6]); exact rfl); simp only [zp, zq, z0, z1])
          | ((with_reducible refine sx_call hp (L10'.out _) ?_); clear hp; (try clear w1); intro w1 hp))
            go_roundw
            case rel => exact ⟨1, _, by omega, rfl, by go_num, hp⟩
            case measure => simp [intOf]
        · cases hF : lt 2 0
          · have L20' := L20
            rw [hF] at L20'
            go_wp2_with (first
          | ((with_reducible apply sx_box hp); exact za rfl; exact rfl; clear hp; (try clear w1); intro g w1 hp; simp only [zp, zq, z0, z1])
          | ((with_reducible apply sx_alloc hp); infer_instance; exact rfl; clear hp; (try clear w1); intro g w1 hp; simp only [zp, zq, z0, z1])
          | ((with_reducible apply sx_load_agg hp); exact zt rfl; infer_instance; infer_instance; (first | exact zl rfl | exact LB_le (by omega)); (first | (with_reducible exact LB_set (by omega)) | (simp only [n0, Nat.reduceAdd, n1, n2, n3, n4, n5, n6, n7, n8, n9]; try rfl)); simp only [zp, zq, z0, z1])
          | ((with_reducible apply sx_load_one hp); exact zt rfl; infer_instance; infer_instance; (first | exact zio rfl | exact LB_get (by omega)); simp only [zp, zq, z0, z1])
          | ((with_reducible apply sx_store hp); exact zt rfl; exact za rfl; exact rfl; (first | exact AggTy.size | exact OneTy.size); exact rfl; infer_instance; (first | (with_reducible exact LB_set (by omega)) | (simp only [n0, Nat.reduceAdd, n1, n2, n3, n4, n5, n6, n7, n8, n9]; try rfl)); (first | exact zl rfl | exact LB_le (by omega)); exact rfl; infer_instance; clear hp; (try clear w1); intro w1 hp)
          | ((with_reducible apply sx_index_one); exact za rfl; exact zk rfl; infer_instance; infer_instance; omega; omega; (first | exact rfl | (go_simp; done)); simp only [zp, zq, z0, z1])
          | ((with_reducible apply sx_index_agg); exact za rfl; exact zk rfl; infer_instance; infer_instance; omega; omega; ((try simp only [m0, Int.reduceToNat, m1, m2, Nat.reduceMul, m3, m4, n5, n1, n2, n3, n4, n6]); exact rfl); simp only [zp, zq, z0, z1])
          | ((with_reducible refine sx_call hp (L20'.out _) ?_); clear hp; (try clear w1); intro w1 hp))
            go_roundw
            case rel =>
              refine ⟨3, by omega, by go_num, fun i hi => ?_, hp⟩
              rcases Nat.lt_or_ge i 2 with h | h
              · exact Hlow.out i h
              · obtain rfl : i = 2 := by omega
                assumption
            case measure => simp [intOf]
          · have L20' := L20
            rw [hF] at L20'
            go_wp2_with (first
          | ((with_reducible apply sx_box hp); exact za rfl; exact rfl; clear hp; (try clear w1); intro g w1 hp; simp only [zp, zq, z0, z1])
          | ((with_reducible apply sx_alloc hp); infer_instance; exact rfl; clear hp; (try clear w1); intro g w1 hp; simp only [zp, zq, z0, z1])
          | ((with_reducible apply sx_load_agg hp); exact zt rfl; infer_instance; infer_instance; (first | exact zl rfl | exact LB_le (by omega)); (first | (with_reducible exact LB_set (by omega)) | (simp only [n0, Nat.reduceAdd, n1, n2, n3, n4, n5, n6, n7, n8, n9]; try rfl)); simp only [zp, zq, z0, z1])
          | ((with_reducible apply sx_load_one hp); exact zt rfl; infer_instance; infer_instance; (first | exact zio rfl | exact LB_get (by omega)); simp only [zp, zq, z0, z1])
          | ((with_reducible apply sx_store hp); exact zt rfl; exact za rfl; exact rfl; (first | exact AggTy.size | exact OneTy.size); exact rfl; infer_instance; (first | (with_reducible exact LB_set (by omega)) | (simp only [n0, Nat.reduceAdd, n1, n2, n3, n4, n5, n6, n7, n8, n9]; try rfl)); (first | exact zl rfl | exact LB_le (by omega)); exact rfl; infer_instance; clear hp; (try clear w1); intro w1 hp)
          | ((with_reducible apply sx_index_one); exact za rfl; exact zk rfl; infer_instance; infer_instance; omega; omega; (first | exact rfl | (go_simp; done)); simp only [zp, zq, z0, z1])
          | ((with_reducible apply sx_index_agg); exact za rfl; exact zk rfl; infer_instance; infer_instance; omega; omega; ((try simp only [m0, Int.reduceToNat, m1, m2, Nat.reduceMul, m3, m4, n5, n1, n2, n3, n4, n6]); exact rfl); simp only [zp, zq, z0, z1])
          | ((with_reducible refine sx_call hp (L20'.out _) ?_); clear hp; (try clear w1); intro w1 hp))
            go_roundw
            case rel => exact ⟨1, _, by omega, rfl, by go_num, hp⟩
            case measure => simp [intOf]
        · exfalso
          rcases T0 with h | h | h
          · rw [Hlow.out 0 (by omega)] at h; cases h
          · rw [Hlow.out 1 (by omega)] at h; cases h
          · rw [Hlow.out 2 (by omega)] at h; cases h
    · obtain rfl : c = 1 := by omega
      clear hc
      go_wp2_with (first
          | ((with_reducible apply sx_box hp); exact za rfl; exact rfl; clear hp; (try clear w1); intro g w1 hp; simp only [zp, zq, z0, z1])
          | ((with_reducible apply sx_alloc hp); infer_instance; exact rfl; clear hp; (try clear w1); intro g w1 hp; simp only [zp, zq, z0, z1])
          | ((with_reducible apply sx_load_agg hp); exact zt rfl; infer_instance; infer_instance; (first | exact zl rfl | exact LB_le (by omega)); (first | (with_reducible exact LB_set (by omega)) | (simp only [n0, Nat.reduceAdd, n1, n2, n3, n4, n5, n6, n7, n8, n9]; try rfl)); simp only [zp, zq, z0, z1])
          | ((with_reducible apply sx_load_one hp); exact zt rfl; infer_instance; infer_instance; (first | exact zio rfl | exact LB_get (by omega)); simp only [zp, zq, z0, z1])
          | ((with_reducible apply sx_store hp); exact zt rfl; exact za rfl; exact rfl; (first | exact AggTy.size | exact OneTy.size); exact rfl; infer_instance; (first | (with_reducible exact LB_set (by omega)) | (simp only [n0, Nat.reduceAdd, n1, n2, n3, n4, n5, n6, n7, n8, n9]; try rfl)); (first | exact zl rfl | exact LB_le (by omega)); exact rfl; infer_instance; clear hp; (try clear w1); intro w1 hp)
          | ((with_reducible apply sx_index_one); exact za rfl; exact zk rfl; infer_instance; infer_instance; omega; omega; (first | exact rfl | (go_simp; done)); simp only [zp, zq, z0, z1])
          | ((with_reducible apply sx_index_agg); exact za rfl; exact zk rfl; infer_instance; infer_instance; omega; omega; ((try simp only [m0, Int.reduceToNat, m1, m2, Nat.reduceMul, m3, m4, n5, n1, n2, n3, n4, n6]); exact rfl); simp only [zp, zq, z0, z1]))
      go_loopw [19] (fun jv wr => ∃ j : Nat, j ≤ 3 ∧ jv = .int .i64 j ∧ (∀ i, i < j → lt i 1 = false) ∧ Hp [] w [⟨gl, 91, [.int .i64 x, .int .i64 y, .int .i64 u]⟩, ⟨go, 24, [.int .i64 0, .int .i64 0, .int .i64 0]⟩, ⟨gn, 24, [.int .i64 x, .int .i64 y, .int .i64 u]⟩] wr) (fun jv _ => 3 - (intOf jv).toNat)
      case atStart => exact ⟨0, by omega, rfl, fun i hi => absurd hi (by omega), hp⟩
      case round =>
        clear hp
        obtain ⟨j, hj, rfl, hlow, hp⟩ := hrel
        have Hlow := Lib.hid hlow
        clear hlow
        have hjs : j = 0 ∨ j = 1 ∨ j = 2 ∨ j = 3 := by omega
        rcases hjs with rfl | rfl | rfl | rfl
        · cases hF : lt 0 1
          · have L01' := L01
            rw [hF] at L01'
            go_wp2_with (first
          | ((with_reducible apply sx_box hp); exact za rfl; exact rfl; clear hp; (try clear w1); intro g w1 hp; simp only [zp, zq, z0, z1])
          | ((with_reducible apply sx_alloc hp); infer_instance; exact rfl; clear hp; (try clear w1); intro g w1 hp; simp only [zp, zq, z0, z1])
          | ((with_reducible apply sx_load_agg hp); exact zt rfl; infer_instance; infer_instance; (first | exact zl rfl | exact LB_le (by omega)); (first | (with_reducible exact LB_set (by omega)) | (simp only [n0, Nat.reduceAdd, n1, n2, n3, n4, n5, n6, n7, n8, n9]; try rfl)); simp only [zp, zq, z0, z1])
          | ((with_reducible apply sx_load_one hp); exact zt rfl; infer_instance; infer_instance; (first | exact zio rfl | exact LB_get (by omega)); simp only [zp, zq, z0, z1])
          | ((with_reducible apply sx_store hp); exact zt rfl; exact za rfl; exact rfl; (first | exact AggTy.size | exact OneTy.size); exact rfl; infer_instance; (first | (with_reducible exact LB_set (by omega)) | (simp only [n0, Nat.reduceAdd, n1, n2, n3, n4, n5, n6, n7, n8, n9]; try rfl)); (first | exact zl rfl | exact LB_le (by omega)); exact rfl; infer_instance; clear hp; (try clear w1); intro w1 hp)
          | ((with_reducible apply sx_index_one); exact za rfl; exact zk rfl; infer_instance; infer_instance; omega; omega; (first | exact rfl | (go_simp; done)); simp only [zp, zq, z0, z1])
          | ((with_reducible apply sx_index_agg); exact za rfl; exact zk rfl; infer_instance; infer_instance; omega; omega; ((try simp only [m0, Int.reduceToNat, m1, m2, Nat.reduceMul, m3, m4, n5, n1, n2, n3, n4, n6]); exact rfl); simp only [zp, zq, z0, z1])
          | ((with_reducible refine sx_call hp (L01'.out _) ?_); clear hp; (try clear w1); intro w1 hp))
            go_roundw
            case rel =>
              refine ⟨1, by omega, by go_num, fun i hi => ?_, hp⟩
              rcases Nat.lt_or_ge i 0 with h | h
              · exact Hlow.out i h
              · obtain rfl : i = 0 := by omega
                assumption
            case measure => simp [intOf]
          · have L01' := L01
            rw [hF] at L01'
            go_wp2_with (first
          | ((with_reducible apply sx_box hp); exact za rfl; exact rfl; clear hp; (try clear w1); intro g w1 hp; simp only [zp, zq, z0, z1])
          | ((with_reducible apply sx_alloc hp); infer_instance; exact rfl; clear hp; (try clear w1); intro g w1 hp; simp only [zp, zq, z0, z1])
          | ((with_reducible apply sx_load_agg hp); exact zt rfl; infer_instance; infer_instance; (first | exact zl rfl | exact LB_le (by omega)); (first | (with_reducible exact LB_set (by omega)) | (simp only [n0, Nat.reduceAdd, n1, n2, n3, n4, n5, n6, n7, n8, n9]; try rfl)); simp only [zp, zq, z0, z1])
          | ((with_reducible apply sx_load_one hp); exact zt rfl; infer_instance; infer_instance; (first | exact zio rfl | exact LB_get (by omega)); simp only [zp, zq, z0, z1])
          | ((with_reducible apply sx_store hp); exact zt rfl; exact za rfl; exact rfl; (first | exact AggTy.size | exact OneTy.size); exact rfl; infer_instance; (first | (with_reducible exact LB_set (by omega)) | (simp only [n0, Nat.reduceAdd, n1, n2, n3, n4, n5, n6, n7, n8, n9]; try rfl)); (first | exact zl rfl | exact LB_le (by omega)); exact rfl; infer_instance; clear hp; (try clear w1); intro w1 hp)
          | ((with_reducible apply sx_index_one); exact za rfl; exact zk rfl; infer_instance; infer_instance; omega; omega; (first | exact rfl | (go_simp; done)); simp only [zp, zq, z0, z1])
          | ((with_reducible apply sx_index_agg); exact za rfl; exact zk rfl; infer_instance; infer_instance; omega; omega; ((try simp only [m0, Int.reduceToNat, m1, m2, Nat.reduceMul, m3, m4, n5, n1, n2, n3, n4, n6]); exact rfl); simp only [zp, zq, z0, z1])
          | ((with_reducible refine sx_call hp (L01'.out _) ?_); clear hp; (try clear w1); intro w1 hp))
            go_roundw
            case rel => exact ⟨2, _, by omega, rfl, by go_num, hp⟩
            case measure => simp [intOf]
        · cases hF : lt 1 1
          · have L11' := L11
            rw [hF] at L11'
            go_wp2_with (first
          | ((with_reducible apply sx_box hp); exact za rfl; exact rfl; clear hp; (try clear w1); intro g w1 hp; simp only [zp, zq, z0, z1])
          | ((with_reducible apply sx_alloc hp); infer_instance; exact rfl; clear hp; (try clear w1); intro g w1 hp; simp only [zp, zq, z0, z1])
          | ((with_reducible apply sx_load_agg hp); exact zt rfl; infer_instance; infer_instance; (first | exact zl rfl | exact LB_le (by omega)); (first | (with_reducible exact LB_set (by omega)) | (simp only [n0, Nat.reduceAdd, n1, n2, n3, n4, n5, n6, n7, n8, n9]; try rfl)); simp only [zp, zq, z0, z1])
          | ((with_reducible apply sx_load_one hp); exact zt rfl; infer_instance; infer_instance; (first | exact zio rfl | exact LB_get (by omega)); simp only [zp, zq, z0, z1])
          | ((with_reducible apply sx_store hp); exact zt rfl; exact za rfl; exact rfl; (first | exact AggTy.size | exact OneTy.size); exact rfl; infer_instance; (first | (with_reducible exact LB_set (by omega)) | (simp only [n0, Nat.reduceAdd, n1, n2, n3, n4, n5, n6, n7, n8, n9]; try rfl)); (first | exact zl rfl | exact LB_le (by omega)); exact rfl; infer_instance; clear hp; (try clear w1); intro w1 hp)
          | ((with_reducible apply sx_index_one); exact za rfl; exact zk rfl; infer_instance; infer_instance; omega; omega; (first | exact rfl | (go_simp; done)); simp only [zp, zq, z0, z1])
          | ((with_reducible apply sx_index_agg); exact za rfl; exact zk rfl; infer_instance; infer_instance; omega; omega; ((try simp only [m0, Int.reduceToNat, m1, m2, Nat.reduceMul, m3, m4, n5, n1, n2, n3, n4, n6]); exact rfl); simp only [zp, zq, z0, z1])
          | ((with_reducible refine sx_call hp (L11'.out _) ?_); clear hp; (try clear w1); intro w1 hp))
            go_roundw
            case rel =>
              refine ⟨2, by omega, by go_num, fun i hi => ?_, hp⟩
              rcases Nat.lt_or_ge i 1 with h | h
              · exact Hlow.out i h
              · obtain rfl : i = 1 := by omega
                assumption
            case measure => simp [intOf]
          · have L11' := L11
            rw [hF] at L11'
            go_wp2_with (first
          | ((with_reducible apply sx_box hp); exact za rfl; exact rfl; clear hp; (try clear w1); intro g w1 hp; simp only [zp, zq, z0, z1])
          | ((with_reducible apply sx_alloc hp); infer_instance; exact rfl; clear hp; (try clear w1); intro g w1 hp; simp only [zp, zq, z0, z1])
          | ((with_reducible apply sx_load_agg hp); exact zt rfl; infer_instance; infer_instance; (first | exact zl rfl | exact LB_le (by omega)); (first | (with_reducible exact LB_set (by omega)) | (simp only [n0, Nat.reduceAdd, n1, n2, n3, n4, n5, n6, n7, n8, n9]; try rfl)); simp only [zp, zq, z0, z1])
          | ((with_reducible apply sx_load_one hp); exact zt rfl; infer_instance; infer_instance; (first | exact zio rfl | exact LB_get (by omega)); simp only [zp, zq, z0, z1])
          | ((with_reducible apply sx_store hp); exact zt rfl; exact za rfl; exact rfl; (first | exact AggTy.size | exact OneTy.size); exact rfl; infer_instance; (first | (with_reducible exact LB_set (by omega)) | (simp only [n0, Nat.reduceAdd, n1, n2, n3, n4, n5, n6, n7, n8, n9]; try rfl)); (first | exact zl rfl | exact LB_le (by omega)); exact rfl; infer_instance; clear hp; (try clear w1); intro w1 hp)
          | ((with_reducible apply sx_index_one); exact za rfl; exact zk rfl; infer_instance; infer_instance; omega; omega; (first | exact rfl | (go_simp; done)); simp only [zp, zq, z0, z1])
          | ((with_reducible apply sx_index_agg); exact za rfl; exact zk rfl; infer_instance; infer_instance; omega; omega; ((try simp only [m0, Int.reduceToNat, m1, m2, Nat.reduceMul, m3, m4, n5, n1, n2, n3, n4, n6]); exact rfl); simp only [zp, zq, z0, z1])
          | ((with_reducible refine sx_call hp (L11'.out _) ?_); clear hp; (try clear w1); intro w1 hp))
            go_roundw
            case rel => exact ⟨2, _, by omega, rfl, by go_num, hp⟩
            case measure => simp [intOf]
        · cases hF : lt 2 1
          · have L21' := L21
            rw [hF] at L21'
            go_wp2_with (first
          | ((with_reducible apply sx_box hp); exact za rfl; exact rfl; clear hp; (try clear w1); intro g w1 hp; simp only [zp, zq, z0, z1])
          | ((with_reducible apply sx_alloc hp); infer_instance; exact rfl; clear hp; (try clear w1); intro g w1 hp; simp only [zp, zq, z0, z1])
          | ((with_reducible apply sx_load_agg hp); exact zt rfl; infer_instance; infer_instance; (first | exact zl rfl | exact LB_le (by omega)); (first | (with_reducible exact LB_set (by omega)) | (simp only [n0, Nat.reduceAdd, n1, n2, n3, n4, n5, n6, n7, n8, n9]; try rfl)); simp only [zp, zq, z0, z1])
          | ((with_reducible apply sx_load_one hp); exact zt rfl; infer_instance; infer_instance; (first | exact zio rfl | exact LB_get (by omega)); simp only [zp, zq, z0, z1])
          | ((with_reducible apply sx_store hp); exact zt rfl; exact za rfl; exact rfl; (first | exact AggTy.size | exact OneTy.size); exact rfl; infer_instance; (first | (with_reducible exact LB_set (by omega)) | (simp only [n0, Nat.reduceAdd, n1, n2, n3, n4, n5, n6, n7, n8, n9]; try rfl)); (first | exact zl rfl | exact LB_le (by omega)); exact rfl; infer_instance; clear hp; (try clear w1); intro w1 hp)
          | ((with_reducible apply sx_index_one); exact za rfl; exact zk rfl; infer_instance; infer_instance; omega; omega; (first | exact rfl | (go_simp; done)); simp only [zp, zq, z0, z1])
          | ((with_reducible apply sx_index_agg); exact za rfl; exact zk rfl; infer_instance; infer_instance; omega; omega; ((try simp only [m0, Int.reduceToNat, m1, m2, Nat.reduceMul, m3, m4, n5, n1, n2, n3, n4, n6]); exact rfl); simp only [zp, zq, z0, z1])
          | ((with_reducible refine sx_call hp (L21'.out _) ?_); clear hp; (try clear w1); intro w1 hp))
            go_roundw
            case rel =>
              refine ⟨3, by omega, by go_num, fun i hi => ?_, hp⟩
              rcases Nat.lt_or_ge i 2 with h | h
              · exact Hlow.out i h
              · obtain rfl : i = 2 := by omega
                assumption
            case measure => simp [intOf]
          · have L21' := L21
            rw [hF] at L21'
            go_wp2_with (first
          | ((with_reducible apply sx_box hp); exact za rfl; exact rfl; clear hp; (try clear w1); intro g w1 hp; simp only [zp, zq, z0, z1])
          | ((with_reducible apply sx_alloc hp); infer_instance; exact rfl; clear hp; (try clear w1); intro g w1 hp; simp only [zp, zq, z0, z1])
          | ((with_reducible apply sx_load_agg hp); exact zt rfl; infer_instance; infer_instance; (first | exact zl rfl | exact LB_le (by omega)); (first | (with_reducible exact LB_set (by omega)) | (simp only [n0, Nat.reduceAdd, n1, n2, n3, n4, n5, n6, n7, n8, n9]; try rfl)); simp only [zp, zq, z0, z1])
          | ((with_reducible apply sx_load_one hp); exact zt rfl; infer_instance; infer_instance; (first | exact zio rfl | exact LB_get (by omega)); simp only [zp, zq, z0, z1])
          | ((with_reducible apply sx_store hp); exact zt rfl; exact za rfl; exact rfl; (first | exact AggTy.size | exact OneTy.size); exact rfl; infer_instance; (first | (with_reducible exact LB_set (by omega)) | (simp only [n0, Nat.reduceAdd, n1, n2, n3, n4, n5, n6, n7, n8, n9]; try rfl)); (first | exact zl rfl | exact LB_le (by omega)); exact rfl; infer_instance; clear hp; (try clear w1); intro w1 hp)
          | ((with_reducible apply sx_index_one); exact za rfl; exact zk rfl; infer_instance; infer_instance; omega; omega; (first | exact rfl | (go_simp; done)); simp only [zp, zq, z0, z1])
          | ((with_reducible apply sx_index_agg); exact za rfl; exact zk rfl; infer_instance; infer_instance; omega; omega; ((try simp only [m0, Int.reduceToNat, m1, m2, Nat.reduceMul, m3, m4, n5, n1, n2, n3, n4, n6]); exact rfl); simp only [zp, zq, z0, z1])
          | ((with_reducible refine sx_call hp (L21'.out _) ?_); clear hp; (try clear w1); intro w1 hp))
            go_roundw
            case rel => exact ⟨2, _, by omega, rfl, by go_num, hp⟩
            case measure => simp [intOf]
        · exfalso
          rcases T1 with h | h | h
          · rw [Hlow.out 0 (by omega)] at h; cases h
          · rw [Hlow.out 1 (by omega)] at h; cases h
          · rw [Hlow.out 2 (by omega)] at h; cases h
    · obtain rfl : c = 2 := by omega
      clear hc
      go_wp2_with (first
          | ((with_reducible apply sx_box hp); exact za rfl; exact rfl; clear hp; (try clear w1); intro g w1 hp; simp only [zp, zq, z0, z1])
          | ((with_reducible apply sx_alloc hp); infer_instance; exact rfl; clear hp; (try clear w1); intro g w1 hp; simp only [zp, zq, z0, z1])
          | ((with_reducible apply sx_load_agg hp); exact zt rfl; infer_instance; infer_instance; (first | exact zl rfl | exact LB_le (by omega)); (first | (with_reducible exact LB_set (by omega)) | (simp only [n0, Nat.reduceAdd, n1, n2, n3, n4, n5, n6, n7, n8, n9]; try rfl)); simp only [zp, zq, z0, z1])
          | ((with_reducible apply sx_load_one hp); exact zt rfl; infer_instance; infer_instance; (first | exact zio rfl | exact LB_get (by omega)); simp only [zp, zq, z0, z1])
          | ((with_reducible apply sx_store hp); exact zt rfl; exact za rfl; exact rfl; (first | exact AggTy.size | exact OneTy.size); exact rfl; infer_instance; (first | (with_reducible exact LB_set (by omega)) | (simp only [n0, Nat.reduceAdd, n1, n2, n3, n4, n5, n6, n7, n8, n9]; try rfl)); (first | exact zl rfl | exact LB_le (by omega)); exact rfl; infer_instance; clear hp; (try clear w1); intro w1 hp)
          | ((with_reducible apply sx_index_one); exact za rfl; exact zk rfl; infer_instance; infer_instance; omega; omega; (first | exact rfl | (go_simp; done)); simp only [zp, zq, z0, z1])
          | ((with_reducible apply sx_index_agg); exact za rfl; exact zk rfl; infer_instance; infer_instance; omega; omega; ((try simp only [m0, Int.reduceToNat, m1, m2, Nat.reduceMul, m3, m4, n5, n1, n2, n3, n4, n6]); exact rfl); simp only [zp, zq, z0, z1]))
      go_loopw [19] (fun jv wr => ∃ j : Nat, j ≤ 3 ∧ jv = .int .i64 j ∧ (∀ i, i < j → lt i 2 = false) ∧ Hp [] w [⟨gl, 91, [.int .i64 x, .int .i64 y, .int .i64 u]⟩, ⟨go, 24, [.int .i64 0, .int .i64 0, .int .i64 0]⟩, ⟨gn, 24, [.int .i64 x, .int .i64 y, .int .i64 u]⟩] wr) (fun jv _ => 3 - (intOf jv).toNat)
      case atStart => exact ⟨0, by omega, rfl, fun i hi => absurd hi (by omega), hp⟩
      case round =>
        clear hp
        obtain ⟨j, hj, rfl, hlow, hp⟩ := hrel
        have Hlow := Lib.hid hlow
        clear hlow
        have hjs : j = 0 ∨ j = 1 ∨ j = 2 ∨ j = 3 := by omega
        rcases hjs with rfl | rfl | rfl | rfl
        · skip
          have hF : lt 0 2 = false := F0
          have L02' := L02
          rw [hF] at L02'
          go_wp2_with (first
          | ((with_reducible apply sx_box hp); exact za rfl; exact rfl; clear hp; (try clear w1); intro g w1 hp; simp only [zp, zq, z0, z1])
          | ((with_reducible apply sx_alloc hp); infer_instance; exact rfl; clear hp; (try clear w1); intro g w1 hp; simp only [zp, zq, z0, z1])
          | ((with_reducible apply sx_load_agg hp); exact zt rfl; infer_instance; infer_instance; (first | exact zl rfl | exact LB_le (by omega)); (first | (with_reducible exact LB_set (by omega)) | (simp only [n0, Nat.reduceAdd, n1, n2, n3, n4, n5, n6, n7, n8, n9]; try rfl)); simp only [zp, zq, z0, z1])
          | ((with_reducible apply sx_load_one hp); exact zt rfl; infer_instance; infer_instance; (first | exact zio rfl | exact LB_get (by omega)); simp only [zp, zq, z0, z1])
          | ((with_reducible apply sx_store hp); exact zt rfl; exact za rfl; exact rfl; (first | exact AggTy.size | exact OneTy.size); exact rfl; infer_instance; (first | (with_reducible exact LB_set (by omega)) | (simp only [n0, Nat.reduceAdd, n1, n2, n3, n4, n5, n6, n7, n8, n9]; try rfl)); (first | exact zl rfl | exact LB_le (by omega)); exact rfl; infer_instance; clear hp; (try clear w1); intro w1 hp)
          | ((with_reducible apply sx_index_one); exact za rfl; exact zk rfl; infer_instance; infer_instance; omega; omega; (first | exact rfl | (go_simp; done)); simp only [zp, zq, z0, z1])
          | ((with_reducible apply sx_index_agg); exact za rfl; exact zk rfl; infer_instance; infer_instance; omega; omega; ((try simp only [m0, Int.reduceToNat, m1, m2, Nat.reduceMul, m3, m4, n5, n1, n2, n3, n4, n6]); exact rfl); simp only [zp, zq, z0, z1])
          | ((with_reducible refine sx_call hp (L02'.out _) ?_); clear hp; (try clear w1); intro w1 hp))
          go_roundw
          case rel =>
            refine ⟨1, by omega, by go_num, fun i hi => ?_, hp⟩
            rcases Nat.lt_or_ge i 0 with h | h
            · exact Hlow.out i h
            · obtain rfl : i = 0 := by omega
              assumption
          case measure => simp [intOf]
        · skip
          have hF : lt 1 2 = false := F1
          have L12' := L12
          rw [hF] at L12'
          go_wp2_with (first
          | ((with_reducible apply sx_box hp); exact za rfl; exact rfl; clear hp; (try clear w1); intro g w1 hp; simp only [zp, zq, z0, z1])
          | ((with_reducible apply sx_alloc hp); infer_instance; exact rfl; clear hp; (try clear w1); intro g w1 hp; simp only [zp, zq, z0, z1])
          | ((with_reducible apply sx_load_agg hp); exact zt rfl; infer_instance; infer_instance; (first | exact zl rfl | exact LB_le (by omega)); (first | (with_reducible exact LB_set (by omega)) | (simp only [n0, Nat.reduceAdd, n1, n2, n3, n4, n5, n6, n7, n8, n9]; try rfl)); simp only [zp, zq, z0, z1])
          | ((with_reducible apply sx_load_one hp); exact zt rfl; infer_instance; infer_instance; (first | exact zio rfl | exact LB_get (by omega)); simp only [zp, zq, z0, z1])
          | ((with_reducible apply sx_store hp); exact zt rfl; exact za rfl; exact rfl; (first | exact AggTy.size | exact OneTy.size); exact rfl; infer_instance; (first | (with_reducible exact LB_set (by omega)) | (simp only [n0, Nat.reduceAdd, n1, n2, n3, n4, n5, n6, n7, n8, n9]; try rfl)); (first | exact zl rfl | exact LB_le (by omega)); exact rfl; infer_instance; clear hp; (try clear w1); intro w1 hp)
          | ((with_reducible apply sx_index_one); exact za rfl; exact zk rfl; infer_instance; infer_instance; omega; omega; (first | exact rfl | (go_simp; done)); simp only [zp, zq, z0, z1])
          | ((with_reducible apply sx_index_agg); exact za rfl; exact zk rfl; infer_instance; infer_instance; omega; omega; ((try simp only [m0, Int.reduceToNat, m1, m2, Nat.reduceMul, m3, m4, n5, n1, n2, n3, n4, n6]); exact rfl); simp only [zp, zq, z0, z1])
          | ((with_reducible refine sx_call hp (L12'.out _) ?_); clear hp; (try clear w1); intro w1 hp))
          go_roundw
          case rel =>
            refine ⟨2, by omega, by go_num, fun i hi => ?_, hp⟩
            rcases Nat.lt_or_ge i 1 with h | h
            · exact Hlow.out i h
            · obtain rfl : i = 1 := by omega
              assumption
          case measure => simp [intOf]
        · skip
          have hF : lt 2 2 = false := F2
          have L22' := L22
          rw [hF] at L22'
          go_wp2_with (first
          | ((with_reducible apply sx_box hp); exact za rfl; exact rfl; clear hp; (try clear w1); intro g w1 hp; simp only [zp, zq, z0, z1])
          | ((with_reducible apply sx_alloc hp); infer_instance; exact rfl; clear hp; (try clear w1); intro g w1 hp; simp only [zp, zq, z0, z1])
          | ((with_reducible apply sx_load_agg hp); exact zt rfl; infer_instance; infer_instance; (first | exact zl rfl | exact LB_le (by omega)); (first | (with_reducible exact LB_set (by omega)) | (simp only [n0, Nat.reduceAdd, n1, n2, n3, n4, n5, n6, n7, n8, n9]; try rfl)); simp only [zp, zq, z0, z1])
          | ((with_reducible apply sx_load_one hp); exact zt rfl; infer_instance; infer_instance; (first | exact zio rfl | exact LB_get (by omega)); simp only [zp, zq, z0, z1])
          | ((with_reducible apply sx_store hp); exact zt rfl; exact za rfl; exact rfl; (first | exact AggTy.size | exact OneTy.size); exact rfl; infer_instance; (first | (with_reducible exact LB_set (by omega)) | (simp only [n0, Nat.reduceAdd, n1, n2, n3, n4, n5, n6, n7, n8, n9]; try rfl)); (first | exact zl rfl | exact LB_le (by omega)); exact rfl; infer_instance; clear hp; (try clear w1); intro w1 hp)
          | ((with_reducible apply sx_index_one); exact za rfl; exact zk rfl; infer_instance; infer_instance; omega; omega; (first | exact rfl | (go_simp; done)); simp only [zp, zq, z0, z1])
          | ((with_reducible apply sx_index_agg); exact za rfl; exact zk rfl; infer_instance; infer_instance; omega; omega; ((try simp only [m0, Int.reduceToNat, m1, m2, Nat.reduceMul, m3, m4, n5, n1, n2, n3, n4, n6]); exact rfl); simp only [zp, zq, z0, z1])
          | ((with_reducible refine sx_call hp (L22'.out _) ?_); clear hp; (try clear w1); intro w1 hp))
          go_roundw
          case rel =>
            refine ⟨3, by omega, by go_num, fun i hi => ?_, hp⟩
            rcases Nat.lt_or_ge i 2 with h | h
            · exact Hlow.out i h
            · obtain rfl : i = 2 := by omega
              assumption
          case measure => simp [intOf]
        · skip
          go_wp2_with (first
          | ((with_reducible apply sx_box hp); exact za rfl; exact rfl; clear hp; (try clear w1); intro g w1 hp; simp only [zp, zq, z0, z1])
          | ((with_reducible apply sx_alloc hp); infer_instance; exact rfl; clear hp; (try clear w1); intro g w1 hp; simp only [zp, zq, z0, z1])
          | ((with_reducible apply sx_load_agg hp); exact zt rfl; infer_instance; infer_instance; (first | exact zl rfl | exact LB_le (by omega)); (first | (with_reducible exact LB_set (by omega)) | (simp only [n0, Nat.reduceAdd, n1, n2, n3, n4, n5, n6, n7, n8, n9]; try rfl)); simp only [zp, zq, z0, z1])
          | ((with_reducible apply sx_load_one hp); exact zt rfl; infer_instance; infer_instance; (first | exact zio rfl | exact LB_get (by omega)); simp only [zp, zq, z0, z1])
          | ((with_reducible apply sx_store hp); exact zt rfl; exact za rfl; exact rfl; (first | exact AggTy.size | exact OneTy.size); exact rfl; infer_instance; (first | (with_reducible exact LB_set (by omega)) | (simp only [n0, Nat.reduceAdd, n1, n2, n3, n4, n5, n6, n7, n8, n9]; try rfl)); (first | exact zl rfl | exact LB_le (by omega)); exact rfl; infer_instance; clear hp; (try clear w1); intro w1 hp)
          | ((with_reducible apply sx_index_one); exact za rfl; exact zk rfl; infer_instance; infer_instance; omega; omega; (first | exact rfl | (go_simp; done)); simp only [zp, zq, z0, z1])
          | ((with_reducible apply sx_index_agg); exact za rfl; exact zk rfl; infer_instance; infer_instance; omega; omega; ((try simp only [m0, Int.reduceToNat, m1, m2, Nat.reduceMul, m3, m4, n5, n1, n2, n3, n4, n6]); exact rfl); simp only [zp, zq, z0, z1]))
          exact bodyPost_ret (results_one rfl ⟨_, rfl, run_load_agg hp (Nat.le_of_ble_eq_true rfl)⟩) rfl ⟨rfl, hp.keep⟩
end Go.Proofs.Ytboiepagonlnkaa
set_option linter.unusedSimpArgs false
set_option linter.unusedVariables false
set_option maxRecDepth 100000
namespace Go.Proofs.Ytboiepagonlnkaa
open Go Go.RowKit
attribute [local irreducible] wpList

/-- The axis along which a direction has the least. -/
def axv (n : P3) : P3 := if n.x.natAbs ≤ n.y.natAbs ∧ n.x.natAbs ≤ n.z.natAbs then ⟨4294967296, 0, 0⟩ else if n.y.natAbs ≤ n.z.natAbs then ⟨0, 4294967296, 0⟩ else ⟨0, 0, 4294967296⟩
theorem axv_i64 (n : P3) : (axv n).i64 := by
  unfold axv P3.i64 I64
  split
  · dsimp only; omega
  · split <;> (dsimp only; omega)
theorem axis_any (n : P3) (hn : n.i64) (w : World) : Calls Try.prog 31 #[PV n] w (Ret (PV (axv n)) w) := by
  obtain ⟨x, y, u⟩ := n
  obtain ⟨hx, hy, hu⟩ := hn
  dsimp only at hx hy hu
  let l : Nat → Int := fun i => if i = 0 then x else if i = 1 then y else u
  let lt : Nat → Nat → Bool := fun i k => decide ((l i).natAbs < (l k).natAbs)
  unfold axv
  dsimp only
  by_cases h0 : x.natAbs ≤ y.natAbs ∧ x.natAbs ≤ u.natAbs
  · rw [if_pos h0]
    exact axis0 x y u lt (Lib.hid (rless_any x x hx hx)) (Lib.hid (rless_any y x hy hx)) (Lib.hid (rless_any u x hu hx)) (decide_eq_false (show ¬ x.natAbs < x.natAbs by omega)) (decide_eq_false (show ¬ y.natAbs < x.natAbs by omega)) (decide_eq_false (show ¬ u.natAbs < x.natAbs by omega)) w
  · rw [if_neg h0]
    have T0 : lt 0 0 = true ∨ lt 1 0 = true ∨ lt 2 0 = true := by
      by_cases hh : y.natAbs < x.natAbs
      · exact .inr (.inl (decide_eq_true (show y.natAbs < x.natAbs from hh)))
      · exact .inr (.inr (decide_eq_true (show u.natAbs < x.natAbs by omega)))
    by_cases h1 : y.natAbs ≤ u.natAbs
    · rw [if_pos h1]
      exact axis1 x y u lt (Lib.hid (rless_any x x hx hx)) (Lib.hid (rless_any x y hx hy)) (Lib.hid (rless_any y x hy hx)) (Lib.hid (rless_any y y hy hy)) (Lib.hid (rless_any u x hu hx)) (Lib.hid (rless_any u y hu hy)) (decide_eq_false (show ¬ x.natAbs < y.natAbs by omega)) (decide_eq_false (show ¬ y.natAbs < y.natAbs by omega)) (decide_eq_false (show ¬ u.natAbs < y.natAbs by omega)) T0 w
    · rw [if_neg h1]
      exact axis2 x y u lt (Lib.hid (rless_any x x hx hx)) (Lib.hid (rless_any x y hx hy)) (Lib.hid (rless_any x u hx hu)) (Lib.hid (rless_any y x hy hx)) (Lib.hid (rless_any y y hy hy)) (Lib.hid (rless_any y u hy hu)) (Lib.hid (rless_any u x hu hx)) (Lib.hid (rless_any u y hu hy)) (Lib.hid (rless_any u u hu hu)) (decide_eq_false (show ¬ x.natAbs < u.natAbs by omega)) (decide_eq_false (show ¬ y.natAbs < u.natAbs by omega)) (decide_eq_false (show ¬ u.natAbs < u.natAbs by omega)) T0 (.inr (.inr (decide_eq_true (show u.natAbs < y.natAbs by omega)))) w
theorem ccr_i64 (a b : P3) : (a.ccross b).i64 := ⟨cl_i64 _, cl_i64 _, cl_i64 _⟩
theorem cdot_i64 (a b : P3) : I64 (a.cdot b) := cl_i64 _
/-- A body as what resists: its mass, the three rows of its matrix, its speeds. -/
structure Inr where
  m : Int
  p : P3
  q : P3
  r : P3
  v : P3
  s : P3
abbrev NV (b : Inr) : Value := .agg #[.int .i64 b.m, .int .i64 b.p.x, .int .i64 b.p.y, .int .i64 b.p.z, .int .i64 b.q.x, .int .i64 b.q.y, .int .i64 b.q.z, .int .i64 b.r.x, .int .i64 b.r.y, .int .i64 b.r.z, .int .i64 b.v.x, .int .i64 b.v.y, .int .i64 b.v.z, .int .i64 b.s.x, .int .i64 b.s.y, .int .i64 b.s.z]
def Inr.i64 (b : Inr) : Prop := I64 b.m ∧ b.p.i64 ∧ b.q.i64 ∧ b.r.i64 ∧ b.v.i64 ∧ b.s.i64
def resv (b : Inr) (r d : P3) : Int := cl (b.m + d.cdot (P3.ccross ⟨b.p.cdot (r.ccross d), b.q.cdot (r.ccross d), b.r.cdot (r.ccross d)⟩ r))
set_option maxHeartbeats 4000000 in
theorem resist_any (b : Inr) (r d : P3) (hb : b.i64) (hr : r.i64) (hd : d.i64) (w : World) : Calls Try.prog 15 #[NV b, PV r, PV d] w (Ret (.int .i64 (resv b r d)) w) := by
  obtain ⟨hm, h1, h2, h3, h4, h5⟩ := hb
  have C1 := Lib.hid (vcross_any r d hr hd)
  have A1 := Lib.hid (apply_any b.p b.q b.r (r.ccross d) h1 h2 h3 (ccr_i64 _ _))
  have C2 := Lib.hid (vcross_any ⟨b.p.cdot (r.ccross d), b.q.cdot (r.ccross d), b.r.cdot (r.ccross d)⟩ r ⟨cdot_i64 _ _, cdot_i64 _ _, cdot_i64 _ _⟩ hr)
  have D1 := Lib.hid (vDot_any d (P3.ccross ⟨b.p.cdot (r.ccross d), b.q.cdot (r.ccross d), b.r.cdot (r.ccross d)⟩ r) hd (ccr_i64 _ _))
  have F1 := Lib.hid (fadd_any b.m (d.cdot (P3.ccross ⟨b.p.cdot (r.ccross d), b.q.cdot (r.ccross d), b.r.cdot (r.ccross d)⟩ r)) hm (cdot_i64 _ _))
  clear hm h1 h2 h3 h4 h5 hr hd
  unfold resv
  generalize cl (b.m + d.cdot (P3.ccross ⟨b.p.cdot (r.ccross d), b.q.cdot (r.ccross d), b.r.cdot (r.ccross d)⟩ r)) = f at *
  unfold P3.cdot at *
  generalize cl (d.dot (P3.ccross ⟨cl (b.p.dot (r.ccross d) / 4294967296), cl (b.q.dot (r.ccross d) / 4294967296), cl (b.r.dot (r.ccross d) / 4294967296)⟩ r) / 4294967296) = e at *
  generalize P3.ccross ⟨cl (b.p.dot (r.ccross d) / 4294967296), cl (b.q.dot (r.ccross d) / 4294967296), cl (b.r.dot (r.ccross d) / 4294967296)⟩ r = c2 at *
  generalize (⟨cl (b.p.dot (r.ccross d) / 4294967296), cl (b.q.dot (r.ccross d) / 4294967296), cl (b.r.dot (r.ccross d) / 4294967296)⟩ : P3) = a1 at *
  generalize r.ccross d = c1 at *
  go_enter Try.func15, Try.ntmps15
  have hp := Hp.start [] w
  go_upto_region 1 with (first
          | ((with_reducible apply sx_box hp); (first | exact za rfl | exact zu rfl | exact zi rfl | exact zb rfl | exact zr rfl | exact zs rfl | exact zf rfl | exact zg rfl | exact zn rfl | exact zv rfl | exact zw rfl); exact rfl; clear hp; (try clear w1); intro g w1 hp; simp only [zp, zq, z0, z1])
          | ((with_reducible apply sx_alloc hp); infer_instance; exact rfl; clear hp; (try clear w1); intro g w1 hp; simp only [zp, zq, z0, z1]))
  have hq := hp
  refine wp_drawnG_hp hp hq [] (.q 0 (.q 1 (.q 2 (.q 3 (.q 4 (.q 5 (.q 6 (.q 9 (.p 7 (.p 8 (.p 10 (.p 11 (.p 12 (.q 13 .nil)))))))))))))) (by kernel_rfl) (by kernel_rfl) ?_
  clear hp hq; (try clear w1); intro w1 hp hq
  repeat' (first
    | (((with_reducible apply sg_q); exact zo rfl); (first
        | ((with_reducible apply sg_load_agg hp); exact rfl; exact zt rfl; infer_instance; infer_instance; (first | exact zl rfl | exact LB_le (by omega)); (first | (with_reducible exact LB_set (by omega)) | (simp only [n0, Nat.reduceAdd, n1, n2, n3, n4, n5, n6, n7, n8, n9]; try rfl)); simp only [zp, zq, z0, z1])
        | ((with_reducible apply sg_load_one hp); exact rfl; exact zt rfl; infer_instance; infer_instance; (first | exact zio rfl | exact LB_get (by omega)); simp only [zp, zq, z0, z1])
        | ((with_reducible apply sg_assign hp); exact zi rfl; simp only [zp, zq, z0, z1])
        | ((with_reducible apply sg_pure hp); exact rfl; (focus (intro _; go_simp; (try go_ints); try with_reducible rfl)); simp only [zp, zq, z0, z1])))
    | (((with_reducible apply sg_p); exact zo rfl); ((with_reducible apply sg_call hp); exact rfl; (focus (intro _; go_simp; try first | with_reducible rfl | exact ⟨rfl, rfl⟩)); (with_reducible first | exact fun w => C1.out w | exact fun w => A1.out w | exact fun w => C2.out w | exact fun w => D1.out w | exact fun w => F1.out w); simp only [zp, zq, z0, z1]))
    | ((with_reducible apply sg_nil hq); clear hp hq; (try clear w1); intro w1 hp))
  go_wp2
  exact bodyPost_ret (results_one rfl rfl) rfl ⟨rfl, hp.keep⟩
def btw (a b : Inr) (ra rb d : P3) : Int := if cl (resv a ra d + resv b rb d) ≤ 0 then 0 else dq 4294967296 (cl (resv a ra d + resv b rb d))
theorem resv_i64 (b : Inr) (r d : P3) : I64 (resv b r d) := cl_i64 _
set_option maxHeartbeats 4000000 in
theorem between_row (a b : Inr) (ra rb d : P3) (ha : a.i64) (hb : b.i64) (hra : ra.i64) (hrb : rb.i64) (hd : d.i64) (w : World) : Calls Try.prog 14 #[NV a, NV b, PV ra, PV rb, PV d] w (Ret (.int .i64 (btw a b ra rb d)) w) := by
  have R1 := Lib.hid (resist_any a ra d ha hra hd)
  have R2 := Lib.hid (resist_any b rb d hb hrb hd)
  have F1 := Lib.hid (fadd_any _ _ (resv_i64 a ra d) (resv_i64 b rb d))
  have D1 := Lib.hid (fdiv_any 4294967296 _ (by unfold I64; omega) (cl_i64 (resv a ra d + resv b rb d)))
  clear ha hb hra hrb hd
  unfold btw
  generalize cl (resv a ra d + resv b rb d) = s at *
  generalize resv a ra d = x at *
  generalize resv b rb d = y at *
  generalize dq 4294967296 s = f at *
  by_cases h0 : s ≤ 0
  · rw [if_pos h0]
    go_enter Try.func14, Try.ntmps14
    have hp := Hp.start [] w
    go_upto_region 1 with (first
          | ((with_reducible apply sx_box hp); (first | exact za rfl | exact zu rfl | exact zi rfl | exact zb rfl | exact zr rfl | exact zs rfl | exact zf rfl | exact zg rfl | exact zn rfl | exact zv rfl | exact zw rfl); exact rfl; clear hp; (try clear w1); intro g w1 hp; simp only [zp, zq, z0, z1])
          | ((with_reducible apply sx_alloc hp); infer_instance; exact rfl; clear hp; (try clear w1); intro g w1 hp; simp only [zp, zq, z0, z1]))
    have hq := hp
    refine wp_drawnG_hp hp hq [] (.q 0 (.q 1 (.q 2 (.q 4 (.q 5 (.q 6 (.p 3 (.p 7 (.p 8 (.q 9 .nil)))))))))) (by kernel_rfl) (by kernel_rfl) ?_
    clear hp hq; (try clear w1); intro w1 hp hq
    repeat' (first
      | (((with_reducible apply sg_q); exact zo rfl); (first
          | ((with_reducible apply sg_load_agg hp); exact rfl; exact zt rfl; infer_instance; infer_instance; (first | exact zl rfl | exact LB_le (by omega)); (first | (with_reducible exact LB_set (by omega)) | (simp only [n0, Nat.reduceAdd, n1, n2, n3, n4, n5, n6, n7, n8, n9]; try rfl)); simp only [zp, zq, z0, z1])
          | ((with_reducible apply sg_assign hp); exact zi rfl; simp only [zp, zq, z0, z1])
          | ((with_reducible apply sg_pure hp); exact rfl; (focus (intro _; go_simp; (try go_ints); try with_reducible rfl)); simp only [zp, zq, z0, z1])))
      | (((with_reducible apply sg_p); exact zo rfl); ((with_reducible apply sg_call hp); exact rfl; (focus (intro _; go_simp; try first | with_reducible rfl | exact ⟨rfl, rfl⟩)); (with_reducible first | exact fun w => R1.out w | exact fun w => R2.out w | exact fun w => F1.out w); simp only [zp, zq, z0, z1]))
      | ((with_reducible apply sg_nil hq); clear hp hq; (try clear w1); intro w1 hp))
    go_wp2_with (first
          | ((with_reducible apply sx_box hp); exact za rfl; exact rfl; clear hp; (try clear w1); intro g w1 hp; simp only [zp, zq, z0, z1])
          | ((with_reducible apply sx_load_agg hp); exact zt rfl; infer_instance; infer_instance; (first | exact zl rfl | exact LB_le (by omega)); (first | (with_reducible exact LB_set (by omega)) | (simp only [n0, Nat.reduceAdd, n1, n2, n3, n4, n5, n6, n7, n8, n9]; try rfl)); simp only [zp, zq, z0, z1]))
    exact bodyPost_ret (results_one rfl rfl) rfl ⟨rfl, hp.keep⟩
  · rw [if_neg h0]
    go_enter Try.func14, Try.ntmps14
    have hp := Hp.start [] w
    go_upto_region 1 with (first
          | ((with_reducible apply sx_box hp); (first | exact za rfl | exact zu rfl | exact zi rfl | exact zb rfl | exact zr rfl | exact zs rfl | exact zf rfl | exact zg rfl | exact zn rfl | exact zv rfl | exact zw rfl); exact rfl; clear hp; (try clear w1); intro g w1 hp; simp only [zp, zq, z0, z1])
          | ((with_reducible apply sx_alloc hp); infer_instance; exact rfl; clear hp; (try clear w1); intro g w1 hp; simp only [zp, zq, z0, z1]))
    have hq := hp
    refine wp_drawnG_hp hp hq [] (.q 0 (.q 1 (.q 2 (.q 4 (.q 5 (.q 6 (.p 3 (.p 7 (.p 8 (.q 9 .nil)))))))))) (by kernel_rfl) (by kernel_rfl) ?_
    clear hp hq; (try clear w1); intro w1 hp hq
    repeat' (first
      | (((with_reducible apply sg_q); exact zo rfl); (first
          | ((with_reducible apply sg_load_agg hp); exact rfl; exact zt rfl; infer_instance; infer_instance; (first | exact zl rfl | exact LB_le (by omega)); (first | (with_reducible exact LB_set (by omega)) | (simp only [n0, Nat.reduceAdd, n1, n2, n3, n4, n5, n6, n7, n8, n9]; try rfl)); simp only [zp, zq, z0, z1])
          | ((with_reducible apply sg_assign hp); exact zi rfl; simp only [zp, zq, z0, z1])
          | ((with_reducible apply sg_pure hp); exact rfl; (focus (intro _; go_simp; (try go_ints); try with_reducible rfl)); simp only [zp, zq, z0, z1])))
      | (((with_reducible apply sg_p); exact zo rfl); ((with_reducible apply sg_call hp); exact rfl; (focus (intro _; go_simp; try first | with_reducible rfl | exact ⟨rfl, rfl⟩)); (with_reducible first | exact fun w => R1.out w | exact fun w => R2.out w | exact fun w => F1.out w); simp only [zp, zq, z0, z1]))
      | ((with_reducible apply sg_nil hq); clear hp hq; (try clear w1); intro w1 hp))
    go_wp2_with (first
          | ((with_reducible apply sx_box hp); exact za rfl; exact rfl; clear hp; (try clear w1); intro g w1 hp; simp only [zp, zq, z0, z1])
          | ((with_reducible apply sx_load_agg hp); exact zt rfl; infer_instance; infer_instance; (first | exact zl rfl | exact LB_le (by omega)); (first | (with_reducible exact LB_set (by omega)) | (simp only [n0, Nat.reduceAdd, n1, n2, n3, n4, n5, n6, n7, n8, n9]; try rfl)); simp only [zp, zq, z0, z1])
          | ((with_reducible refine sx_call hp (D1.out _) ?_); clear hp; (try clear w1); intro w1 hp))
    exact bodyPost_ret (results_one rfl rfl) rfl ⟨rfl, hp.keep⟩
end Go.Proofs.Ytboiepagonlnkaa
