/-
  ninepinlaw22.RowsStill (contract).
-/
import Derived.Test.YtboiepagonlnkaaYe
set_option linter.unusedSimpArgs false
set_option linter.unusedVariables false
set_option maxRecDepth 100000
namespace Go.Proofs.Ytboiepagonlnkaa
open Go Go.RowKit
attribute [local irreducible] wpList

/-- A body that does not turn. -/
def stillI (m : Int) : Inr := ⟨m, ⟨0, 0, 0⟩, ⟨0, 0, 0⟩, ⟨0, 0, 0⟩, ⟨0, 0, 0⟩, ⟨0, 0, 0⟩⟩
theorem still_i64 {m : Int} (h : I64 m) : (stillI m).i64 := by
  have z : P3.i64 ⟨0, 0, 0⟩ := p3i4 (by omega)
  exact ⟨h, z, z, z, z, z⟩
theorem resv_still {m : Int} (h : I64 m) (r d : P3) : resv (stillI m) r d = m := by
  have e : ∀ c : P3, P3.cdot ⟨0, 0, 0⟩ c = 0 := fun c => by simp [P3.cdot, P3.dot, cl]
  have e2 : P3.ccross ⟨0, 0, 0⟩ r = ⟨0, 0, 0⟩ := by simp [P3.ccross, cl]
  have e3 : d.cdot ⟨0, 0, 0⟩ = 0 := by simp [P3.cdot, P3.dot, cl]
  unfold resv stillI
  dsimp only
  rw [e, e2, e3]
  unfold I64 at h
  unfold cl
  rw [if_neg (by omega), if_neg (by omega)]
  omega
set_option maxHeartbeats 4000000 in
theorem still_none (m n s : Int) (a b d : P3) (hs : decide (0 < s) = false)
    (S1 : Hid (∀ w, Calls Try.prog 12 #[.int .i64 m, .int .i64 n] w (Ret (.int .i64 s) w)))
    (B1 : Hid (∀ w, Calls Try.prog 14 #[NV (stillI m), NV (stillI n), PV a, PV b, PV d] w (Ret (.int .i64 0) w)))
    (B2 : Hid (∀ w, Calls Try.prog 14 #[NV (stillI 0), NV (stillI 0), PV a, PV b, PV d] w (Ret (.int .i64 0) w)))
    (R1 : Hid (∀ w, Calls Try.prog 15 #[NV (stillI m), PV a, PV d] w (Ret (.int .i64 m) w))) (w : World) :
    Calls Try.prog 4 #[.int .i64 m, .int .i64 n, PV a, PV b, PV d] w (Ret (.bool true) w) := by
  unfold stillI at B1 B2 R1
  dsimp only [NV] at B1 B2 R1
  go_enter Try.func4, Try.ntmps4
  have hp := Hp.start [] w
  go_wp2_with (first
          | ((with_reducible apply sx_guard); (conv => whnf); refine Bx.mk ?_; (try simp only [zp, zq, z0, z1]))
          | ((with_reducible apply sx_box hp); exact za rfl; exact rfl; clear hp; (try clear w1); intro g w1 hp; simp only [zp, zq, z0, z1])
          | ((with_reducible apply sx_alloc hp); infer_instance; exact rfl; clear hp; (try clear w1); intro g w1 hp; simp only [zp, zq, z0, z1])
          | ((with_reducible apply sx_load_agg hp); exact zt rfl; infer_instance; infer_instance; (first | exact zl rfl | exact LB_le (by omega)); (first | (with_reducible exact LB_set (by omega)) | (simp only [n0, Nat.reduceAdd, n1, n2, n3, n4, n5, n6, n7, n8, n9]; try rfl)); simp only [zp, zq, z0, z1])
          | ((with_reducible apply sx_store hp); exact zt rfl; exact za rfl; exact rfl; (first | exact AggTy.size | exact OneTy.size); exact rfl; infer_instance; (first | (with_reducible exact LB_set (by omega)) | (simp only [n0, Nat.reduceAdd, n1, n2, n3, n4, n5, n6, n7, n8, n9]; try rfl)); (first | exact zl rfl | exact LB_le (by omega)); exact rfl; infer_instance; clear hp; (try clear w1); intro w1 hp)
          | ((with_reducible first | refine sx_call hp (S1.out _) ?_ | refine sx_call hp (B1.out _) ?_ | refine sx_call hp (B2.out _) ?_ | refine sx_call hp (R1.out _) ?_ | refine sx_call hp (awake22 _) ?_); clear hp; (try clear w1); intro w1 hp))
  exact bodyPost_ret (results_one rfl rfl) rfl ⟨rfl, hp.keep⟩
set_option maxHeartbeats 4000000 in
theorem still_some (m n s q : Int) (a b d : P3) (hs : decide (0 < s) = true)
    (S1 : Hid (∀ w, Calls Try.prog 12 #[.int .i64 m, .int .i64 n] w (Ret (.int .i64 s) w)))
    (D1 : Hid (∀ w, Calls Try.prog 13 #[.int .i64 4294967296, .int .i64 s] w (Ret (.int .i64 q) w)))
    (B1 : Hid (∀ w, Calls Try.prog 14 #[NV (stillI m), NV (stillI n), PV a, PV b, PV d] w (Ret (.int .i64 q) w)))
    (B2 : Hid (∀ w, Calls Try.prog 14 #[NV (stillI 0), NV (stillI 0), PV a, PV b, PV d] w (Ret (.int .i64 0) w)))
    (R1 : Hid (∀ w, Calls Try.prog 15 #[NV (stillI m), PV a, PV d] w (Ret (.int .i64 m) w))) (w : World) :
    Calls Try.prog 4 #[.int .i64 m, .int .i64 n, PV a, PV b, PV d] w (Ret (.bool true) w) := by
  unfold stillI at B1 B2 R1
  dsimp only [NV] at B1 B2 R1
  go_enter Try.func4, Try.ntmps4
  have hp := Hp.start [] w
  go_wp2_with (first
          | ((with_reducible apply sx_guard); (conv => whnf); refine Bx.mk ?_; (try simp only [zp, zq, z0, z1]))
          | ((with_reducible apply sx_box hp); exact za rfl; exact rfl; clear hp; (try clear w1); intro g w1 hp; simp only [zp, zq, z0, z1])
          | ((with_reducible apply sx_alloc hp); infer_instance; exact rfl; clear hp; (try clear w1); intro g w1 hp; simp only [zp, zq, z0, z1])
          | ((with_reducible apply sx_load_agg hp); exact zt rfl; infer_instance; infer_instance; (first | exact zl rfl | exact LB_le (by omega)); (first | (with_reducible exact LB_set (by omega)) | (simp only [n0, Nat.reduceAdd, n1, n2, n3, n4, n5, n6, n7, n8, n9]; try rfl)); simp only [zp, zq, z0, z1])
          | ((with_reducible apply sx_store hp); exact zt rfl; exact za rfl; exact rfl; (first | exact AggTy.size | exact OneTy.size); exact rfl; infer_instance; (first | (with_reducible exact LB_set (by omega)) | (simp only [n0, Nat.reduceAdd, n1, n2, n3, n4, n5, n6, n7, n8, n9]; try rfl)); (first | exact zl rfl | exact LB_le (by omega)); exact rfl; infer_instance; clear hp; (try clear w1); intro w1 hp)
          | ((with_reducible first | refine sx_call hp (S1.out _) ?_ | refine sx_call hp (D1.out _) ?_ | refine sx_call hp (B1.out _) ?_ | refine sx_call hp (B2.out _) ?_ | refine sx_call hp (R1.out _) ?_ | refine sx_call hp (awake22 _) ?_); clear hp; (try clear w1); intro w1 hp))
  exact bodyPost_ret (results_one rfl rfl) rfl ⟨rfl, hp.keep⟩
theorem still_law (m : Int) (hm : I64 m) (n : Int) (hn : I64 n) (a : P3) (ha : a.i64) (b : P3) (hb : b.i64) (d : P3) (hd : d.i64) (w : World) :
    Calls Try.prog 4 #[.int .i64 m, .int .i64 n, PV a, PV b, PV d] w (Ret (.bool true) w) := by
  have i0 : I64 0 := by unfold I64; omega
  have B1 := between_row (stillI m) (stillI n) a b d (still_i64 hm) (still_i64 hn) ha hb hd
  have B2 := between_row (stillI 0) (stillI 0) a b d (still_i64 i0) (still_i64 i0) ha hb hd
  have R1 := resist_any (stillI m) a d (still_i64 hm) ha hd
  have D1 := fdiv_any 4294967296 (cl (m + n)) (by unfold I64; omega) (cl_i64 _)
  unfold btw at B1 B2
  rw [resv_still hm, resv_still hn] at B1
  rw [resv_still i0, resv_still i0, if_pos (by decide)] at B2
  rw [resv_still hm] at R1
  generalize hs : cl (m + n) = s at *
  have S1 := fadd_any m n hm hn
  rw [hs] at S1
  by_cases h0 : s ≤ 0
  · rw [if_pos h0] at B1
    exact still_none m n s a b d (decide_eq_false (by omega)) (Lib.hid S1) (Lib.hid B1) (Lib.hid B2) (Lib.hid R1) w
  · rw [if_neg h0] at B1
    exact still_some m n s _ a b d (decide_eq_true (by omega)) (Lib.hid S1) (Lib.hid D1) (Lib.hid B1) (Lib.hid B2) (Lib.hid R1) w
end Go.Proofs.Ytboiepagonlnkaa
