/-
  ninepinlaw06.GridLinear (contract).
-/
import Derived.Test.YtbhlnbllkoomfaaFh
import Derived.Test.YtbhlnbllkoomfaaFf
import Derived.Test.YtbhlnbllkoomfaaPd
set_option linter.unusedSimpArgs false
set_option linter.unusedVariables false
set_option maxRecDepth 100000
namespace Go.Proofs.Ytbhlnbllkoomfaa
open Go Go.RowKit
attribute [local irreducible] wpList

section
variable {α : Type} {a b c : α} {r : List α}
theorem pm1 : (a :: b :: c :: r).Perm (b :: a :: c :: r) := .swap _ _ _
theorem pm2 : (a :: b :: c :: r).Perm (a :: c :: b :: r) := .cons _ (.swap _ _ _)
theorem pm3 : (a :: b :: c :: r).Perm (b :: c :: a :: r) := pm1.trans pm2
theorem pm4 : (a :: b :: c :: r).Perm (c :: a :: b :: r) := pm2.trans pm1
theorem pm5 : (a :: b :: c :: r).Perm (c :: b :: a :: r) := pm3.trans pm1
end
def P3.little (p : P3) : Prop := (-1152921504606846976 ≤ p.x ∧ p.x ≤ 1152921504606846976) ∧ (-1152921504606846976 ≤ p.y ∧ p.y ≤ 1152921504606846976) ∧ (-1152921504606846976 ≤ p.z ∧ p.z ≤ 1152921504606846976)
instance (p : P3) : Decidable p.little := inferInstanceAs (Decidable (_ ∧ _))
theorem run_max60 {P : Program} (ts : Array TypeId) (t : TypeId) (x y z : Int) : ∃ m : Int, (∀ w, (Builtin.max_ ts t #[.int .i64 x, .int .i64 y, .int .i64 z]).run P w = .ok (.int .i64 m) w) ∧ (m ≤ 1152921504606846976 ↔ x ≤ 1152921504606846976 ∧ y ≤ 1152921504606846976 ∧ z ≤ 1152921504606846976) := by
  refine ⟨if z > (if y > x then y else x) then z else (if y > x then y else x), fun w => ?_, ?_⟩
  · simp [Builtin.max_, Builtin.max2]
  · split <;> split <;> omega
theorem run_min60 {P : Program} (ts : Array TypeId) (t : TypeId) (x y z : Int) : ∃ m : Int, (∀ w, (Builtin.min_ ts t #[.int .i64 x, .int .i64 y, .int .i64 z]).run P w = .ok (.int .i64 m) w) ∧ (-1152921504606846976 ≤ m ↔ -1152921504606846976 ≤ x ∧ -1152921504606846976 ≤ y ∧ -1152921504606846976 ≤ z) := by
  refine ⟨if z < (if y < x then y else x) then z else (if y < x then y else x), fun w => ?_, ?_⟩
  · simp [Builtin.min_, Builtin.min2]
  · split <;> split <;> omega
set_option maxHeartbeats 1000000 in
theorem little_core (x y z M m : Int) (r : Bool) (Hr : Hid (r = decide (M ≤ 1152921504606846976 ∧ -1152921504606846976 ≤ m))) (hM : ∀ w, (Builtin.max_ #[2, 2, 2] 2 #[.int .i64 x, .int .i64 y, .int .i64 z]).run Try.prog w = .ok (.int .i64 M) w)
    (hm : ∀ w, (Builtin.min_ #[2, 2, 2] 2 #[.int .i64 x, .int .i64 y, .int .i64 z]).run Try.prog w = .ok (.int .i64 m) w) (w : World) : Calls Try.prog 32 #[PV ⟨x, y, z⟩] w (Ret (.bool r) w) := by
  by_cases h1 : M ≤ 1152921504606846976
  · by_cases h2 : -1152921504606846976 ≤ m
    · obtain rfl : r = true := by rw [Hr.out]; simp [h1, h2]
      go_enter Try.func32, Try.ntmps32
      have hp := Hp.start [] w
      go_wp2_with (first
          | ((with_reducible apply sx_box hp); exact za rfl; exact rfl; clear hp; (try clear w1); intro g w1 hp; simp only [zp, zq, z0, z1])
          | ((with_reducible apply sx_load_one hp); exact zt rfl; infer_instance; infer_instance; (first | exact zio rfl | exact LB_get (by omega)); simp only [zp, zq, z0, z1])
          | ((with_reducible apply sx_strip); exact rfl)
          | ((with_reducible apply sx_unwanted); exact rfl; simp only [zp, zq, z0, z1]))
      exact bodyPost_ret (results_one rfl rfl) rfl ⟨rfl, hp.keep⟩
    · obtain rfl : r = false := by rw [Hr.out]; simp [h2]
      go_enter Try.func32, Try.ntmps32
      have hp := Hp.start [] w
      go_wp2_with (first
          | ((with_reducible apply sx_box hp); exact za rfl; exact rfl; clear hp; (try clear w1); intro g w1 hp; simp only [zp, zq, z0, z1])
          | ((with_reducible apply sx_load_one hp); exact zt rfl; infer_instance; infer_instance; (first | exact zio rfl | exact LB_get (by omega)); simp only [zp, zq, z0, z1])
          | ((with_reducible apply sx_strip); exact rfl)
          | ((with_reducible apply sx_unwanted); exact rfl; simp only [zp, zq, z0, z1]))
      exact bodyPost_ret (results_one rfl rfl) rfl ⟨rfl, hp.keep⟩
  · obtain rfl : r = false := by rw [Hr.out]; simp [h1]
    go_enter Try.func32, Try.ntmps32
    have hp := Hp.start [] w
    go_wp2_with (first
          | ((with_reducible apply sx_box hp); exact za rfl; exact rfl; clear hp; (try clear w1); intro g w1 hp; simp only [zp, zq, z0, z1])
          | ((with_reducible apply sx_load_one hp); exact zt rfl; infer_instance; infer_instance; (first | exact zio rfl | exact LB_get (by omega)); simp only [zp, zq, z0, z1]))
    exact bodyPost_ret (results_one rfl rfl) rfl ⟨rfl, hp.keep⟩
theorem little_any (p : P3) (w : World) : Calls Try.prog 32 #[PV p] w (Ret (.bool (decide p.little)) w) := by
  obtain ⟨x, y, z⟩ := p
  obtain ⟨M, hM, eM⟩ := run_max60 (P := Try.prog) #[2, 2, 2] 2 x y z
  obtain ⟨m, hm, em⟩ := run_min60 (P := Try.prog) #[2, 2, 2] 2 x y z
  exact little_core x y z M m _ (Lib.hid (decide_eq_decide.2 (by rw [eM, em]; unfold P3.little; dsimp only; omega))) hM hm w
set_option maxHeartbeats 4000000 in
theorem linear_no (a b c d : P3) (s1 s2 s3 s4 : Bool) (hs : s1 = false ∨ (s1 = true ∧ s2 = false) ∨ (s1 = true ∧ s2 = true ∧ s3 = false) ∨ (s1 = true ∧ s2 = true ∧ s3 = true ∧ s4 = false))
    (S1 : Hid (∀ w, Calls Try.prog 32 #[PV a] w (Ret (.bool s1) w))) (S2 : Hid (∀ w, Calls Try.prog 32 #[PV b] w (Ret (.bool s2) w)))
    (S3 : Hid (∀ w, Calls Try.prog 32 #[PV c] w (Ret (.bool s3) w))) (S4 : Hid (∀ w, Calls Try.prog 32 #[PV d] w (Ret (.bool s4) w))) (w : World) :
    Calls Try.prog 9 #[PV a, PV b, PV c, PV d] w (Ret (.bool true) w) := by
  rcases hs with rfl | ⟨rfl, rfl⟩ | ⟨rfl, rfl, rfl⟩ | ⟨rfl, rfl, rfl, rfl⟩
  all_goals
    skip
    go_enter Try.func9, Try.ntmps9
    have hp := Hp.start [] w
    go_wp2_with (first
          | ((with_reducible apply sx_guard); (conv => whnf); refine Bx.mk ?_; (try simp only [zp, zq, z0, z1]))
          | ((with_reducible apply sx_box hp); exact za rfl; exact rfl; clear hp; (try clear w1); intro g w1 hp; simp only [zp, zq, z0, z1])
          | ((with_reducible apply sx_alloc hp); infer_instance; exact rfl; clear hp; (try clear w1); intro g w1 hp; simp only [zp, zq, z0, z1])
          | ((with_reducible apply sx_load_agg hp); exact zt rfl; infer_instance; infer_instance; (first | exact zl rfl | exact LB_le (by omega)); (first | (with_reducible exact LB_set (by omega)) | (simp only [n0, Nat.reduceAdd, n1, n2, n3, n4, n5, n6, n7, n8, n9]; try rfl)); simp only [zp, zq, z0, z1])
          | ((with_reducible apply sx_store hp); exact zt rfl; exact za rfl; exact rfl; (first | exact AggTy.size | exact OneTy.size); exact rfl; infer_instance; (first | (with_reducible exact LB_set (by omega)) | (simp only [n0, Nat.reduceAdd, n1, n2, n3, n4, n5, n6, n7, n8, n9]; try rfl)); (first | exact zl rfl | exact LB_le (by omega)); exact rfl; infer_instance; clear hp; (try clear w1); intro w1 hp)
          | ((with_reducible first | refine sx_call hp (S1.out _) ?_ | refine sx_call hp (S2.out _) ?_ | refine sx_call hp (S3.out _) ?_ | refine sx_call hp (S4.out _) ?_ | refine sx_call hp (awake6 _) ?_); clear hp; (try clear w1); intro w1 hp))
    exact bodyPost_ret (results_one rfl rfl) rfl ⟨rfl, hp.keep⟩
set_option maxHeartbeats 8000000 in
theorem linear_core (a b c d s : P3) (x1 x2 x3 y1 y2 y3 o1 o2 o3 p q r e f g9 : Int)
    (S1 : Hid (∀ w, Calls Try.prog 32 #[PV a] w (Ret (.bool true) w))) (S2 : Hid (∀ w, Calls Try.prog 32 #[PV b] w (Ret (.bool true) w)))
    (S3 : Hid (∀ w, Calls Try.prog 32 #[PV c] w (Ret (.bool true) w))) (S4 : Hid (∀ w, Calls Try.prog 32 #[PV d] w (Ret (.bool true) w)))
    (SM : Hid (∀ w, Calls Try.prog 33 #[PV a, PV b] w (Ret (PV s) w)))
    (C1 : Hid (∀ w, Calls Try.prog 20 #[PV a, PV c] w (Ret (Sv x1 x2 x3) w)))
    (C2 : Hid (∀ w, Calls Try.prog 20 #[PV b, PV c] w (Ret (Sv y1 y2 y3) w)))
    (C3 : Hid (∀ w, Calls Try.prog 20 #[PV s, PV c] w (Ret (Sv o1 o2 o3) w)))
    (D1 : Hid (∀ w, Calls Try.prog 25 #[PV a, PV c] w (Ret (W p) w)))
    (D2 : Hid (∀ w, Calls Try.prog 25 #[PV b, PV c] w (Ret (W q) w)))
    (D3 : Hid (∀ w, Calls Try.prog 25 #[PV s, PV c] w (Ret (W r) w)))
    (E1 : Hid (∀ w, Calls Try.prog 19 #[PV a, PV c, PV d] w (Ret (W e) w)))
    (E2 : Hid (∀ w, Calls Try.prog 19 #[PV b, PV c, PV d] w (Ret (W f) w)))
    (E3 : Hid (∀ w, Calls Try.prog 19 #[PV s, PV c, PV d] w (Ret (W g9) w)))
    (P1 : Hid (∀ w, Calls Try.prog 29 #[W x1, W y1] w (Ret (W o1) w)))
    (P2 : Hid (∀ w, Calls Try.prog 29 #[W x2, W y2] w (Ret (W o2) w)))
    (P3' : Hid (∀ w, Calls Try.prog 29 #[W x3, W y3] w (Ret (W o3) w)))
    (P4 : Hid (∀ w, Calls Try.prog 29 #[W p, W q] w (Ret (W r) w)))
    (P5 : Hid (∀ w, Calls Try.prog 29 #[W e, W f] w (Ret (W g9) w))) (w : World) :
    Calls Try.prog 9 #[PV a, PV b, PV c, PV d] w (Ret (.bool true) w) := by
  obtain ⟨ax, ay, az⟩ := a
  obtain ⟨bx, by', bz⟩ := b
  obtain ⟨cx, cy, cz⟩ := c
  obtain ⟨dx, dy, dz⟩ := d
  obtain ⟨sx, sy, sz⟩ := s
  go_enter Try.func9, Try.ntmps9
  have hp := Hp.start [] w
  go_upto_region 1 with (first
          | ((with_reducible apply sx_box hp); (first | exact za rfl | exact zu rfl | exact zi rfl | exact zb rfl | exact zr rfl | exact zs rfl | exact zf rfl | exact zg rfl | exact zn rfl | exact zv rfl | exact zw rfl); exact rfl; clear hp; (try clear w1); intro g w1 hp; simp only [zp, zq, z0, z1])
          | ((with_reducible apply sx_alloc hp); infer_instance; exact rfl; clear hp; (try clear w1); intro g w1 hp; simp only [zp, zq, z0, z1]))
  rename_i ga gb gc K0 hK0 K hK
  obtain ⟨gd, rfl⟩ : ∃ k : Nat, k = g := ⟨_, rfl⟩
  go_upto_region 3 with (first
          | ((with_reducible apply sx_guard); (conv => whnf); refine Bx.mk ?_; (try simp only [zp, zq, z0, z1]))
          | ((with_reducible apply sx_box hp); exact za rfl; exact rfl; clear hp; (try clear w1); intro g w1 hp; simp only [zp, zq, z0, z1])
          | ((with_reducible apply sx_alloc hp); infer_instance; exact rfl; clear hp; (try clear w1); intro g w1 hp; simp only [zp, zq, z0, z1])
          | ((with_reducible apply sx_load_agg hp); exact zt rfl; infer_instance; infer_instance; (first | exact zl rfl | exact LB_le (by omega)); (first | (with_reducible exact LB_set (by omega)) | (simp only [n0, Nat.reduceAdd, n1, n2, n3, n4, n5, n6, n7, n8, n9]; try rfl)); simp only [zp, zq, z0, z1])
          | ((with_reducible apply sx_store hp); exact zt rfl; exact za rfl; exact rfl; (first | exact AggTy.size | exact OneTy.size); exact rfl; infer_instance; (first | (with_reducible exact LB_set (by omega)) | (simp only [n0, Nat.reduceAdd, n1, n2, n3, n4, n5, n6, n7, n8, n9]; try rfl)); (first | exact zl rfl | exact LB_le (by omega)); exact rfl; infer_instance; clear hp; (try clear w1); intro w1 hp)
          | ((with_reducible first | refine sx_call hp (S1.out _) ?_ | refine sx_call hp (S2.out _) ?_ | refine sx_call hp (S3.out _) ?_ | refine sx_call hp (S4.out _) ?_); clear hp; (try clear w1); intro w1 hp))
  clear S1 S2 S3 S4
  go_cut [9, 10, 11] (fun s1 s2 s3 wx => ∃ g1 g2 g3, s1 = .pointer (some ⟨g1, 0, none⟩) ∧ s2 = .pointer (some ⟨g2, 0, none⟩) ∧ s3 = .pointer (some ⟨g3, 0, none⟩) ∧ Hp [] w [⟨g3, 27, [.int .u64 (lb (o1) 0), .int .u64 (lb (o1) 1), .int .u64 (lb (o1) 2), .int .u64 (lb (o1) 3), .int .u64 (lb (o1) 4), .int .u64 (lb (o1) 5), .int .u64 (lb (o1) 6), .int .u64 (lb (o1) 7), .int .u64 (lb (o2) 0), .int .u64 (lb (o2) 1), .int .u64 (lb (o2) 2), .int .u64 (lb (o2) 3), .int .u64 (lb (o2) 4), .int .u64 (lb (o2) 5), .int .u64 (lb (o2) 6), .int .u64 (lb (o2) 7), .int .u64 (lb (o3) 0), .int .u64 (lb (o3) 1), .int .u64 (lb (o3) 2), .int .u64 (lb (o3) 3), .int .u64 (lb (o3) 4), .int .u64 (lb (o3) 5), .int .u64 (lb (o3) 6), .int .u64 (lb (o3) 7)]⟩, ⟨g2, 27, [.int .u64 (lb (y1) 0), .int .u64 (lb (y1) 1), .int .u64 (lb (y1) 2), .int .u64 (lb (y1) 3), .int .u64 (lb (y1) 4), .int .u64 (lb (y1) 5), .int .u64 (lb (y1) 6), .int .u64 (lb (y1) 7), .int .u64 (lb (y2) 0), .int .u64 (lb (y2) 1), .int .u64 (lb (y2) 2), .int .u64 (lb (y2) 3), .int .u64 (lb (y2) 4), .int .u64 (lb (y2) 5), .int .u64 (lb (y2) 6), .int .u64 (lb (y2) 7), .int .u64 (lb (y3) 0), .int .u64 (lb (y3) 1), .int .u64 (lb (y3) 2), .int .u64 (lb (y3) 3), .int .u64 (lb (y3) 4), .int .u64 (lb (y3) 5), .int .u64 (lb (y3) 6), .int .u64 (lb (y3) 7)]⟩, ⟨g1, 27, [.int .u64 (lb (x1) 0), .int .u64 (lb (x1) 1), .int .u64 (lb (x1) 2), .int .u64 (lb (x1) 3), .int .u64 (lb (x1) 4), .int .u64 (lb (x1) 5), .int .u64 (lb (x1) 6), .int .u64 (lb (x1) 7), .int .u64 (lb (x2) 0), .int .u64 (lb (x2) 1), .int .u64 (lb (x2) 2), .int .u64 (lb (x2) 3), .int .u64 (lb (x2) 4), .int .u64 (lb (x2) 5), .int .u64 (lb (x2) 6), .int .u64 (lb (x2) 7), .int .u64 (lb (x3) 0), .int .u64 (lb (x3) 1), .int .u64 (lb (x3) 2), .int .u64 (lb (x3) 3), .int .u64 (lb (x3) 4), .int .u64 (lb (x3) 5), .int .u64 (lb (x3) 6), .int .u64 (lb (x3) 7)]⟩, ⟨gd, 29, [.int .i64 dx, .int .i64 dy, .int .i64 dz]⟩, ⟨gc, 29, [.int .i64 cx, .int .i64 cy, .int .i64 cz]⟩, ⟨gb, 29, [.int .i64 bx, .int .i64 by', .int .i64 bz]⟩, ⟨ga, 29, [.int .i64 ax, .int .i64 ay, .int .i64 az]⟩] wx)
  case first =>
    skip
    have hq := hp
    refine wp_drawnG_hp hp hq [16] (.q 0 (.q 1 (.q 3 (.q 4 (.q 6 (.q 7 (.q 9 (.p 2 (.p 5 (.p 8 (.p 10 (.alt 11 (.alt 12 (.l 13 (.l 14 (.l 15 (.l 16 .nil)))) (.l 13 (.l 12 (.l 14 (.l 15 (.l 16 .nil)))))) (.alt 12 (.alt 11 (.l 13 (.l 14 (.l 15 (.l 16 .nil)))) (.l 13 (.l 11 (.l 14 (.l 15 (.l 16 .nil)))))) (.l 13 (.alt 11 (.l 12 (.l 14 (.l 15 (.l 16 .nil)))) (.l 12 (.l 11 (.l 14 (.l 15 (.l 16 .nil)))))))))))))))))))) (by kernel_rfl) (by kernel_rfl) ?_
    clear hp hq; (try clear w1); intro w1 hp hq
    ((with_reducible apply sg_q); exact zo rfl)
    ((with_reducible apply sg_load_agg hp); exact rfl; exact zt rfl; infer_instance; infer_instance; (first | exact zl rfl | exact LB_le (by omega)); (first | (with_reducible exact LB_set (by omega)) | (simp only [n0, Nat.reduceAdd, n1, n2, n3, n4, n5, n6, n7, n8, n9]; try rfl)); simp only [zp, zq, z0, z1])
    ((with_reducible apply sg_q); exact zo rfl)
    ((with_reducible apply sg_load_agg hp); exact rfl; exact zt rfl; infer_instance; infer_instance; (first | exact zl rfl | exact LB_le (by omega)); (first | (with_reducible exact LB_set (by omega)) | (simp only [n0, Nat.reduceAdd, n1, n2, n3, n4, n5, n6, n7, n8, n9]; try rfl)); simp only [zp, zq, z0, z1])
    ((with_reducible apply sg_q); exact zo rfl)
    ((with_reducible apply sg_load_agg hp); exact rfl; exact zt rfl; infer_instance; infer_instance; (first | exact zl rfl | exact LB_le (by omega)); (first | (with_reducible exact LB_set (by omega)) | (simp only [n0, Nat.reduceAdd, n1, n2, n3, n4, n5, n6, n7, n8, n9]; try rfl)); simp only [zp, zq, z0, z1])
    ((with_reducible apply sg_q); exact zo rfl)
    ((with_reducible apply sg_load_agg hp); exact rfl; exact zt rfl; infer_instance; infer_instance; (first | exact zl rfl | exact LB_le (by omega)); (first | (with_reducible exact LB_set (by omega)) | (simp only [n0, Nat.reduceAdd, n1, n2, n3, n4, n5, n6, n7, n8, n9]; try rfl)); simp only [zp, zq, z0, z1])
    ((with_reducible apply sg_q); exact zo rfl)
    ((with_reducible apply sg_load_agg hp); exact rfl; exact zt rfl; infer_instance; infer_instance; (first | exact zl rfl | exact LB_le (by omega)); (first | (with_reducible exact LB_set (by omega)) | (simp only [n0, Nat.reduceAdd, n1, n2, n3, n4, n5, n6, n7, n8, n9]; try rfl)); simp only [zp, zq, z0, z1])
    ((with_reducible apply sg_q); exact zo rfl)
    ((with_reducible apply sg_load_agg hp); exact rfl; exact zt rfl; infer_instance; infer_instance; (first | exact zl rfl | exact LB_le (by omega)); (first | (with_reducible exact LB_set (by omega)) | (simp only [n0, Nat.reduceAdd, n1, n2, n3, n4, n5, n6, n7, n8, n9]; try rfl)); simp only [zp, zq, z0, z1])
    ((with_reducible apply sg_q); exact zo rfl)
    ((with_reducible apply sg_load_agg hp); exact rfl; exact zt rfl; infer_instance; infer_instance; (first | exact zl rfl | exact LB_le (by omega)); (first | (with_reducible exact LB_set (by omega)) | (simp only [n0, Nat.reduceAdd, n1, n2, n3, n4, n5, n6, n7, n8, n9]; try rfl)); simp only [zp, zq, z0, z1])
    ((with_reducible apply sg_p); exact zo rfl)
    ((with_reducible apply sg_call hp); exact rfl; (focus (intro _; go_simp; try first | with_reducible rfl | exact ⟨rfl, rfl⟩)); (with_reducible first | exact fun w => C1.out w | exact fun w => C2.out w | exact fun w => C3.out w | exact fun w => SM.out w); simp only [zp, zq, z0, z1])
    ((with_reducible apply sg_p); exact zo rfl)
    ((with_reducible apply sg_call hp); exact rfl; (focus (intro _; go_simp; try first | with_reducible rfl | exact ⟨rfl, rfl⟩)); (with_reducible first | exact fun w => C1.out w | exact fun w => C2.out w | exact fun w => C3.out w | exact fun w => SM.out w); simp only [zp, zq, z0, z1])
    ((with_reducible apply sg_p); exact zo rfl)
    ((with_reducible apply sg_call hp); exact rfl; (focus (intro _; go_simp; try first | with_reducible rfl | exact ⟨rfl, rfl⟩)); (with_reducible first | exact fun w => C1.out w | exact fun w => C2.out w | exact fun w => C3.out w | exact fun w => SM.out w); simp only [zp, zq, z0, z1])
    ((with_reducible apply sg_p); exact zo rfl)
    ((with_reducible apply sg_call hp); exact rfl; (focus (intro _; go_simp; try first | with_reducible rfl | exact ⟨rfl, rfl⟩)); (with_reducible first | exact fun w => C1.out w | exact fun w => C2.out w | exact fun w => C3.out w | exact fun w => SM.out w); simp only [zp, zq, z0, z1])
    (with_reducible apply sg_alt)
    · skip
      ((with_reducible apply sg_l); exact zo rfl)
      ((with_reducible apply sg_alloc hq); (repeat (first | exact List.Sublist.refl _ | apply List.Sublist.cons)); exact rfl; infer_instance; exact rfl; clear hp hq; (try clear w1); intro g w1 hp hq; simp only [zp, zq, z0, z1])
      (with_reducible apply sg_alt)
      · skip
        ((with_reducible apply sg_l); exact zo rfl)
        ((with_reducible apply sg_alloc hq); (repeat (first | exact List.Sublist.refl _ | apply List.Sublist.cons)); exact rfl; infer_instance; exact rfl; clear hp hq; (try clear w1); intro g w1 hp hq; simp only [zp, zq, z0, z1])
        ((with_reducible apply sg_l); exact zo rfl)
        ((with_reducible apply sg_alloc hq); (repeat (first | exact List.Sublist.refl _ | apply List.Sublist.cons)); exact rfl; infer_instance; exact rfl; clear hp hq; (try clear w1); intro g w1 hp hq; simp only [zp, zq, z0, z1])
        ((with_reducible apply sg_l); exact zo rfl)
        ((with_reducible apply sg_store_far hq); exact rfl; exact zt rfl; exact za rfl; exact rfl; (first | exact AggTy.size | exact OneTy.size); exact rfl; infer_instance; (first | (with_reducible exact LB_set (by omega)) | (simp only [n0, Nat.reduceAdd, n1, n2, n3, n4, n5, n6, n7, n8, n9]; try rfl)); (first | exact zl rfl | exact LB_le (by omega)); exact rfl; infer_instance; (repeat (first | exact List.Sublist.refl _ | apply List.Sublist.cons)); clear hp hq; (try clear w1); intro w1 hp hq)
        ((with_reducible apply sg_l); exact zo rfl)
        ((with_reducible apply sg_store_far hq); exact rfl; exact zt rfl; exact za rfl; exact rfl; (first | exact AggTy.size | exact OneTy.size); exact rfl; infer_instance; (first | (with_reducible exact LB_set (by omega)) | (simp only [n0, Nat.reduceAdd, n1, n2, n3, n4, n5, n6, n7, n8, n9]; try rfl)); (first | exact zl rfl | exact LB_le (by omega)); exact rfl; infer_instance; (repeat (first | exact List.Sublist.refl _ | apply List.Sublist.cons)); clear hp hq; (try clear w1); intro w1 hp hq)
        ((with_reducible apply sg_l); exact zo rfl)
        (first
      | ((with_reducible apply sg_store_far hq); exact rfl; exact zt rfl; exact za rfl; exact rfl; (first | exact AggTy.size | exact OneTy.size); exact rfl; infer_instance; (first | (with_reducible exact LB_set (by omega)) | (simp only [n0, Nat.reduceAdd, n1, n2, n3, n4, n5, n6, n7, n8, n9]; try rfl)); (first | exact zl rfl | exact LB_le (by omega)); exact rfl; infer_instance; (repeat (first | exact List.Sublist.refl _ | apply List.Sublist.cons)); clear hp hq; (try clear w1); intro w1 hp hq)
      | ((with_reducible apply sg_store hq); exact rfl; exact zt rfl; exact za rfl; exact rfl; (first | exact AggTy.size | exact OneTy.size); exact rfl; infer_instance; (first | (with_reducible exact LB_set (by omega)) | (simp only [n0, Nat.reduceAdd, n1, n2, n3, n4, n5, n6, n7, n8, n9]; try rfl)); (first | exact zl rfl | exact LB_le (by omega)); exact rfl; infer_instance; exact rfl; clear hp hq; (try clear w1); intro w1 hq; have hp := True.intro))
        ((with_reducible apply sg_nil hq); clear hp hq; (try clear w1); intro w1 hp)
        (go_wp2_with fail; go_meet; exact ⟨_, _, _, rfl, rfl, rfl, hp.perm (by first | exact List.Perm.refl _ | exact pm1 | exact pm2 | exact pm3 | exact pm4 | exact pm5)⟩)
      · skip
        ((with_reducible apply sg_l); exact zo rfl)
        ((with_reducible apply sg_alloc hq); (repeat (first | exact List.Sublist.refl _ | apply List.Sublist.cons)); exact rfl; infer_instance; exact rfl; clear hp hq; (try clear w1); intro g w1 hp hq; simp only [zp, zq, z0, z1])
        ((with_reducible apply sg_l); exact zo rfl)
        ((with_reducible apply sg_alloc hq); (repeat (first | exact List.Sublist.refl _ | apply List.Sublist.cons)); exact rfl; infer_instance; exact rfl; clear hp hq; (try clear w1); intro g w1 hp hq; simp only [zp, zq, z0, z1])
        ((with_reducible apply sg_l); exact zo rfl)
        ((with_reducible apply sg_store_far hq); exact rfl; exact zt rfl; exact za rfl; exact rfl; (first | exact AggTy.size | exact OneTy.size); exact rfl; infer_instance; (first | (with_reducible exact LB_set (by omega)) | (simp only [n0, Nat.reduceAdd, n1, n2, n3, n4, n5, n6, n7, n8, n9]; try rfl)); (first | exact zl rfl | exact LB_le (by omega)); exact rfl; infer_instance; (repeat (first | exact List.Sublist.refl _ | apply List.Sublist.cons)); clear hp hq; (try clear w1); intro w1 hp hq)
        ((with_reducible apply sg_l); exact zo rfl)
        ((with_reducible apply sg_store_far hq); exact rfl; exact zt rfl; exact za rfl; exact rfl; (first | exact AggTy.size | exact OneTy.size); exact rfl; infer_instance; (first | (with_reducible exact LB_set (by omega)) | (simp only [n0, Nat.reduceAdd, n1, n2, n3, n4, n5, n6, n7, n8, n9]; try rfl)); (first | exact zl rfl | exact LB_le (by omega)); exact rfl; infer_instance; (repeat (first | exact List.Sublist.refl _ | apply List.Sublist.cons)); clear hp hq; (try clear w1); intro w1 hp hq)
        ((with_reducible apply sg_l); exact zo rfl)
        (first
      | ((with_reducible apply sg_store_far hq); exact rfl; exact zt rfl; exact za rfl; exact rfl; (first | exact AggTy.size | exact OneTy.size); exact rfl; infer_instance; (first | (with_reducible exact LB_set (by omega)) | (simp only [n0, Nat.reduceAdd, n1, n2, n3, n4, n5, n6, n7, n8, n9]; try rfl)); (first | exact zl rfl | exact LB_le (by omega)); exact rfl; infer_instance; (repeat (first | exact List.Sublist.refl _ | apply List.Sublist.cons)); clear hp hq; (try clear w1); intro w1 hp hq)
      | ((with_reducible apply sg_store hq); exact rfl; exact zt rfl; exact za rfl; exact rfl; (first | exact AggTy.size | exact OneTy.size); exact rfl; infer_instance; (first | (with_reducible exact LB_set (by omega)) | (simp only [n0, Nat.reduceAdd, n1, n2, n3, n4, n5, n6, n7, n8, n9]; try rfl)); (first | exact zl rfl | exact LB_le (by omega)); exact rfl; infer_instance; exact rfl; clear hp hq; (try clear w1); intro w1 hq; have hp := True.intro))
        ((with_reducible apply sg_nil hq); clear hp hq; (try clear w1); intro w1 hp)
        (go_wp2_with fail; go_meet; exact ⟨_, _, _, rfl, rfl, rfl, hp.perm (by first | exact List.Perm.refl _ | exact pm1 | exact pm2 | exact pm3 | exact pm4 | exact pm5)⟩)
    · skip
      (with_reducible apply sg_alt)
      · skip
        ((with_reducible apply sg_l); exact zo rfl)
        ((with_reducible apply sg_alloc hq); (repeat (first | exact List.Sublist.refl _ | apply List.Sublist.cons)); exact rfl; infer_instance; exact rfl; clear hp hq; (try clear w1); intro g w1 hp hq; simp only [zp, zq, z0, z1])
        (with_reducible apply sg_alt)
        · skip
          ((with_reducible apply sg_l); exact zo rfl)
          ((with_reducible apply sg_alloc hq); (repeat (first | exact List.Sublist.refl _ | apply List.Sublist.cons)); exact rfl; infer_instance; exact rfl; clear hp hq; (try clear w1); intro g w1 hp hq; simp only [zp, zq, z0, z1])
          ((with_reducible apply sg_l); exact zo rfl)
          ((with_reducible apply sg_alloc hq); (repeat (first | exact List.Sublist.refl _ | apply List.Sublist.cons)); exact rfl; infer_instance; exact rfl; clear hp hq; (try clear w1); intro g w1 hp hq; simp only [zp, zq, z0, z1])
          ((with_reducible apply sg_l); exact zo rfl)
          ((with_reducible apply sg_store_far hq); exact rfl; exact zt rfl; exact za rfl; exact rfl; (first | exact AggTy.size | exact OneTy.size); exact rfl; infer_instance; (first | (with_reducible exact LB_set (by omega)) | (simp only [n0, Nat.reduceAdd, n1, n2, n3, n4, n5, n6, n7, n8, n9]; try rfl)); (first | exact zl rfl | exact LB_le (by omega)); exact rfl; infer_instance; (repeat (first | exact List.Sublist.refl _ | apply List.Sublist.cons)); clear hp hq; (try clear w1); intro w1 hp hq)
          ((with_reducible apply sg_l); exact zo rfl)
          ((with_reducible apply sg_store_far hq); exact rfl; exact zt rfl; exact za rfl; exact rfl; (first | exact AggTy.size | exact OneTy.size); exact rfl; infer_instance; (first | (with_reducible exact LB_set (by omega)) | (simp only [n0, Nat.reduceAdd, n1, n2, n3, n4, n5, n6, n7, n8, n9]; try rfl)); (first | exact zl rfl | exact LB_le (by omega)); exact rfl; infer_instance; (repeat (first | exact List.Sublist.refl _ | apply List.Sublist.cons)); clear hp hq; (try clear w1); intro w1 hp hq)
          ((with_reducible apply sg_l); exact zo rfl)
          (first
      | ((with_reducible apply sg_store_far hq); exact rfl; exact zt rfl; exact za rfl; exact rfl; (first | exact AggTy.size | exact OneTy.size); exact rfl; infer_instance; (first | (with_reducible exact LB_set (by omega)) | (simp only [n0, Nat.reduceAdd, n1, n2, n3, n4, n5, n6, n7, n8, n9]; try rfl)); (first | exact zl rfl | exact LB_le (by omega)); exact rfl; infer_instance; (repeat (first | exact List.Sublist.refl _ | apply List.Sublist.cons)); clear hp hq; (try clear w1); intro w1 hp hq)
      | ((with_reducible apply sg_store hq); exact rfl; exact zt rfl; exact za rfl; exact rfl; (first | exact AggTy.size | exact OneTy.size); exact rfl; infer_instance; (first | (with_reducible exact LB_set (by omega)) | (simp only [n0, Nat.reduceAdd, n1, n2, n3, n4, n5, n6, n7, n8, n9]; try rfl)); (first | exact zl rfl | exact LB_le (by omega)); exact rfl; infer_instance; exact rfl; clear hp hq; (try clear w1); intro w1 hq; have hp := True.intro))
          ((with_reducible apply sg_nil hq); clear hp hq; (try clear w1); intro w1 hp)
          (go_wp2_with fail; go_meet; exact ⟨_, _, _, rfl, rfl, rfl, hp.perm (by first | exact List.Perm.refl _ | exact pm1 | exact pm2 | exact pm3 | exact pm4 | exact pm5)⟩)
        · skip
          ((with_reducible apply sg_l); exact zo rfl)
          ((with_reducible apply sg_alloc hq); (repeat (first | exact List.Sublist.refl _ | apply List.Sublist.cons)); exact rfl; infer_instance; exact rfl; clear hp hq; (try clear w1); intro g w1 hp hq; simp only [zp, zq, z0, z1])
          ((with_reducible apply sg_l); exact zo rfl)
          ((with_reducible apply sg_alloc hq); (repeat (first | exact List.Sublist.refl _ | apply List.Sublist.cons)); exact rfl; infer_instance; exact rfl; clear hp hq; (try clear w1); intro g w1 hp hq; simp only [zp, zq, z0, z1])
          ((with_reducible apply sg_l); exact zo rfl)
          ((with_reducible apply sg_store_far hq); exact rfl; exact zt rfl; exact za rfl; exact rfl; (first | exact AggTy.size | exact OneTy.size); exact rfl; infer_instance; (first | (with_reducible exact LB_set (by omega)) | (simp only [n0, Nat.reduceAdd, n1, n2, n3, n4, n5, n6, n7, n8, n9]; try rfl)); (first | exact zl rfl | exact LB_le (by omega)); exact rfl; infer_instance; (repeat (first | exact List.Sublist.refl _ | apply List.Sublist.cons)); clear hp hq; (try clear w1); intro w1 hp hq)
          ((with_reducible apply sg_l); exact zo rfl)
          ((with_reducible apply sg_store_far hq); exact rfl; exact zt rfl; exact za rfl; exact rfl; (first | exact AggTy.size | exact OneTy.size); exact rfl; infer_instance; (first | (with_reducible exact LB_set (by omega)) | (simp only [n0, Nat.reduceAdd, n1, n2, n3, n4, n5, n6, n7, n8, n9]; try rfl)); (first | exact zl rfl | exact LB_le (by omega)); exact rfl; infer_instance; (repeat (first | exact List.Sublist.refl _ | apply List.Sublist.cons)); clear hp hq; (try clear w1); intro w1 hp hq)
          ((with_reducible apply sg_l); exact zo rfl)
          (first
      | ((with_reducible apply sg_store_far hq); exact rfl; exact zt rfl; exact za rfl; exact rfl; (first | exact AggTy.size | exact OneTy.size); exact rfl; infer_instance; (first | (with_reducible exact LB_set (by omega)) | (simp only [n0, Nat.reduceAdd, n1, n2, n3, n4, n5, n6, n7, n8, n9]; try rfl)); (first | exact zl rfl | exact LB_le (by omega)); exact rfl; infer_instance; (repeat (first | exact List.Sublist.refl _ | apply List.Sublist.cons)); clear hp hq; (try clear w1); intro w1 hp hq)
      | ((with_reducible apply sg_store hq); exact rfl; exact zt rfl; exact za rfl; exact rfl; (first | exact AggTy.size | exact OneTy.size); exact rfl; infer_instance; (first | (with_reducible exact LB_set (by omega)) | (simp only [n0, Nat.reduceAdd, n1, n2, n3, n4, n5, n6, n7, n8, n9]; try rfl)); (first | exact zl rfl | exact LB_le (by omega)); exact rfl; infer_instance; exact rfl; clear hp hq; (try clear w1); intro w1 hq; have hp := True.intro))
          ((with_reducible apply sg_nil hq); clear hp hq; (try clear w1); intro w1 hp)
          (go_wp2_with fail; go_meet; exact ⟨_, _, _, rfl, rfl, rfl, hp.perm (by first | exact List.Perm.refl _ | exact pm1 | exact pm2 | exact pm3 | exact pm4 | exact pm5)⟩)
      · skip
        ((with_reducible apply sg_l); exact zo rfl)
        ((with_reducible apply sg_alloc hq); (repeat (first | exact List.Sublist.refl _ | apply List.Sublist.cons)); exact rfl; infer_instance; exact rfl; clear hp hq; (try clear w1); intro g w1 hp hq; simp only [zp, zq, z0, z1])
        (with_reducible apply sg_alt)
        · skip
          ((with_reducible apply sg_l); exact zo rfl)
          ((with_reducible apply sg_alloc hq); (repeat (first | exact List.Sublist.refl _ | apply List.Sublist.cons)); exact rfl; infer_instance; exact rfl; clear hp hq; (try clear w1); intro g w1 hp hq; simp only [zp, zq, z0, z1])
          ((with_reducible apply sg_l); exact zo rfl)
          ((with_reducible apply sg_alloc hq); (repeat (first | exact List.Sublist.refl _ | apply List.Sublist.cons)); exact rfl; infer_instance; exact rfl; clear hp hq; (try clear w1); intro g w1 hp hq; simp only [zp, zq, z0, z1])
          ((with_reducible apply sg_l); exact zo rfl)
          ((with_reducible apply sg_store_far hq); exact rfl; exact zt rfl; exact za rfl; exact rfl; (first | exact AggTy.size | exact OneTy.size); exact rfl; infer_instance; (first | (with_reducible exact LB_set (by omega)) | (simp only [n0, Nat.reduceAdd, n1, n2, n3, n4, n5, n6, n7, n8, n9]; try rfl)); (first | exact zl rfl | exact LB_le (by omega)); exact rfl; infer_instance; (repeat (first | exact List.Sublist.refl _ | apply List.Sublist.cons)); clear hp hq; (try clear w1); intro w1 hp hq)
          ((with_reducible apply sg_l); exact zo rfl)
          ((with_reducible apply sg_store_far hq); exact rfl; exact zt rfl; exact za rfl; exact rfl; (first | exact AggTy.size | exact OneTy.size); exact rfl; infer_instance; (first | (with_reducible exact LB_set (by omega)) | (simp only [n0, Nat.reduceAdd, n1, n2, n3, n4, n5, n6, n7, n8, n9]; try rfl)); (first | exact zl rfl | exact LB_le (by omega)); exact rfl; infer_instance; (repeat (first | exact List.Sublist.refl _ | apply List.Sublist.cons)); clear hp hq; (try clear w1); intro w1 hp hq)
          ((with_reducible apply sg_l); exact zo rfl)
          (first
      | ((with_reducible apply sg_store_far hq); exact rfl; exact zt rfl; exact za rfl; exact rfl; (first | exact AggTy.size | exact OneTy.size); exact rfl; infer_instance; (first | (with_reducible exact LB_set (by omega)) | (simp only [n0, Nat.reduceAdd, n1, n2, n3, n4, n5, n6, n7, n8, n9]; try rfl)); (first | exact zl rfl | exact LB_le (by omega)); exact rfl; infer_instance; (repeat (first | exact List.Sublist.refl _ | apply List.Sublist.cons)); clear hp hq; (try clear w1); intro w1 hp hq)
      | ((with_reducible apply sg_store hq); exact rfl; exact zt rfl; exact za rfl; exact rfl; (first | exact AggTy.size | exact OneTy.size); exact rfl; infer_instance; (first | (with_reducible exact LB_set (by omega)) | (simp only [n0, Nat.reduceAdd, n1, n2, n3, n4, n5, n6, n7, n8, n9]; try rfl)); (first | exact zl rfl | exact LB_le (by omega)); exact rfl; infer_instance; exact rfl; clear hp hq; (try clear w1); intro w1 hq; have hp := True.intro))
          ((with_reducible apply sg_nil hq); clear hp hq; (try clear w1); intro w1 hp)
          (go_wp2_with fail; go_meet; exact ⟨_, _, _, rfl, rfl, rfl, hp.perm (by first | exact List.Perm.refl _ | exact pm1 | exact pm2 | exact pm3 | exact pm4 | exact pm5)⟩)
        · skip
          ((with_reducible apply sg_l); exact zo rfl)
          ((with_reducible apply sg_alloc hq); (repeat (first | exact List.Sublist.refl _ | apply List.Sublist.cons)); exact rfl; infer_instance; exact rfl; clear hp hq; (try clear w1); intro g w1 hp hq; simp only [zp, zq, z0, z1])
          ((with_reducible apply sg_l); exact zo rfl)
          ((with_reducible apply sg_alloc hq); (repeat (first | exact List.Sublist.refl _ | apply List.Sublist.cons)); exact rfl; infer_instance; exact rfl; clear hp hq; (try clear w1); intro g w1 hp hq; simp only [zp, zq, z0, z1])
          ((with_reducible apply sg_l); exact zo rfl)
          ((with_reducible apply sg_store_far hq); exact rfl; exact zt rfl; exact za rfl; exact rfl; (first | exact AggTy.size | exact OneTy.size); exact rfl; infer_instance; (first | (with_reducible exact LB_set (by omega)) | (simp only [n0, Nat.reduceAdd, n1, n2, n3, n4, n5, n6, n7, n8, n9]; try rfl)); (first | exact zl rfl | exact LB_le (by omega)); exact rfl; infer_instance; (repeat (first | exact List.Sublist.refl _ | apply List.Sublist.cons)); clear hp hq; (try clear w1); intro w1 hp hq)
          ((with_reducible apply sg_l); exact zo rfl)
          ((with_reducible apply sg_store_far hq); exact rfl; exact zt rfl; exact za rfl; exact rfl; (first | exact AggTy.size | exact OneTy.size); exact rfl; infer_instance; (first | (with_reducible exact LB_set (by omega)) | (simp only [n0, Nat.reduceAdd, n1, n2, n3, n4, n5, n6, n7, n8, n9]; try rfl)); (first | exact zl rfl | exact LB_le (by omega)); exact rfl; infer_instance; (repeat (first | exact List.Sublist.refl _ | apply List.Sublist.cons)); clear hp hq; (try clear w1); intro w1 hp hq)
          ((with_reducible apply sg_l); exact zo rfl)
          (first
      | ((with_reducible apply sg_store_far hq); exact rfl; exact zt rfl; exact za rfl; exact rfl; (first | exact AggTy.size | exact OneTy.size); exact rfl; infer_instance; (first | (with_reducible exact LB_set (by omega)) | (simp only [n0, Nat.reduceAdd, n1, n2, n3, n4, n5, n6, n7, n8, n9]; try rfl)); (first | exact zl rfl | exact LB_le (by omega)); exact rfl; infer_instance; (repeat (first | exact List.Sublist.refl _ | apply List.Sublist.cons)); clear hp hq; (try clear w1); intro w1 hp hq)
      | ((with_reducible apply sg_store hq); exact rfl; exact zt rfl; exact za rfl; exact rfl; (first | exact AggTy.size | exact OneTy.size); exact rfl; infer_instance; (first | (with_reducible exact LB_set (by omega)) | (simp only [n0, Nat.reduceAdd, n1, n2, n3, n4, n5, n6, n7, n8, n9]; try rfl)); (first | exact zl rfl | exact LB_le (by omega)); exact rfl; infer_instance; exact rfl; clear hp hq; (try clear w1); intro w1 hq; have hp := True.intro))
          ((with_reducible apply sg_nil hq); clear hp hq; (try clear w1); intro w1 hp)
          (go_wp2_with fail; go_meet; exact ⟨_, _, _, rfl, rfl, rfl, hp.perm (by first | exact List.Perm.refl _ | exact pm1 | exact pm2 | exact pm3 | exact pm4 | exact pm5)⟩)
  case rest =>
    clear hp C1 C2 C3
    obtain ⟨g1, g2, g3, rfl, rfl, rfl, hp⟩ := hcut
    go_upto_region 4 with fail
    have hq := hp
    refine wp_drawn_hp hp hq [] (.q 0 (.q 1 (.q 3 (.q 5 (.q 6 (.q 8 (.q 9 (.l 2 (.l 4 (.l 7 (.l 10 (.l 11 (.q 12 (.q 13 (.q 14 (.q 15 (.q 16 (.q 17 (.q 18 (.q 20 (.q 21 (.q 22 (.q 23 (.q 25 (.q 26 (.q 27 (.q 28 (.l 19 (.l 24 (.l 29 (.q 30 (.q 31 (.q 32 (.q 33 (.q 34 (.q 35 (.q 37 (.q 38 (.q 40 (.q 41 (.q 42 (.q 44 (.q 45 (.q 46 (.l 36 (.l 39 (.l 43 (.l 47 (.l 48 (.q 49 (.q 50 (.q 51 (.l 52 (.q 53 (.q 54 .nil))))))))))))))))))))))))))))))))))))))))))))))))))))))) (by kernel_rfl) (by kernel_rfl) ?_
    clear hp hq; (try clear w1); intro w1 hp hq
    ((with_reducible apply sd_q); exact zo rfl)
    ((with_reducible apply sd_load_agg hp); exact rfl; exact zt rfl; infer_instance; infer_instance; (first | exact zl rfl | exact LB_le (by omega)); (first | (with_reducible exact LB_set (by omega)) | (simp only [n0, Nat.reduceAdd, n1, n2, n3, n4, n5, n6, n7, n8, n9]; try rfl)); simp only [zp, zq, z0, z1])
    ((with_reducible apply sd_q); exact zo rfl)
    ((with_reducible apply sd_load_agg hp); exact rfl; exact zt rfl; infer_instance; infer_instance; (first | exact zl rfl | exact LB_le (by omega)); (first | (with_reducible exact LB_set (by omega)) | (simp only [n0, Nat.reduceAdd, n1, n2, n3, n4, n5, n6, n7, n8, n9]; try rfl)); simp only [zp, zq, z0, z1])
    ((with_reducible apply sd_q); exact zo rfl)
    ((with_reducible apply sd_load_agg hp); exact rfl; exact zt rfl; infer_instance; infer_instance; (first | exact zl rfl | exact LB_le (by omega)); (first | (with_reducible exact LB_set (by omega)) | (simp only [n0, Nat.reduceAdd, n1, n2, n3, n4, n5, n6, n7, n8, n9]; try rfl)); simp only [zp, zq, z0, z1])
    ((with_reducible apply sd_q); exact zo rfl)
    ((with_reducible apply sd_load_agg hp); exact rfl; exact zt rfl; infer_instance; infer_instance; (first | exact zl rfl | exact LB_le (by omega)); (first | (with_reducible exact LB_set (by omega)) | (simp only [n0, Nat.reduceAdd, n1, n2, n3, n4, n5, n6, n7, n8, n9]; try rfl)); simp only [zp, zq, z0, z1])
    ((with_reducible apply sd_q); exact zo rfl)
    ((with_reducible apply sd_load_agg hp); exact rfl; exact zt rfl; infer_instance; infer_instance; (first | exact zl rfl | exact LB_le (by omega)); (first | (with_reducible exact LB_set (by omega)) | (simp only [n0, Nat.reduceAdd, n1, n2, n3, n4, n5, n6, n7, n8, n9]; try rfl)); simp only [zp, zq, z0, z1])
    ((with_reducible apply sd_q); exact zo rfl)
    ((with_reducible apply sd_load_agg hp); exact rfl; exact zt rfl; infer_instance; infer_instance; (first | exact zl rfl | exact LB_le (by omega)); (first | (with_reducible exact LB_set (by omega)) | (simp only [n0, Nat.reduceAdd, n1, n2, n3, n4, n5, n6, n7, n8, n9]; try rfl)); simp only [zp, zq, z0, z1])
    ((with_reducible apply sd_q); exact zo rfl)
    ((with_reducible apply sd_load_agg hp); exact rfl; exact zt rfl; infer_instance; infer_instance; (first | exact zl rfl | exact LB_le (by omega)); (first | (with_reducible exact LB_set (by omega)) | (simp only [n0, Nat.reduceAdd, n1, n2, n3, n4, n5, n6, n7, n8, n9]; try rfl)); simp only [zp, zq, z0, z1])
    ((with_reducible apply sd_l); exact zo rfl)
    ((with_reducible apply sd_call hp); exact rfl; (focus (intro _; go_simp; try first | with_reducible rfl | exact ⟨rfl, rfl⟩)); (with_reducible first | exact fun w => SM.out w | exact fun w => D1.out w | exact fun w => D2.out w | exact fun w => D3.out w | exact fun w => E1.out w | exact fun w => E2.out w | exact fun w => E3.out w | exact fun w => P1.out w | exact fun w => P2.out w | exact fun w => P3'.out w | exact fun w => P4.out w | exact fun w => P5.out w | exact fun w => awake6 w); exact hq; clear hp hq; (try clear w1); intro w1 hp hq; simp only [zp, zq, z0, z1])
    ((with_reducible apply sd_l); exact zo rfl)
    ((with_reducible apply sd_call hp); exact rfl; (focus (intro _; go_simp; try first | with_reducible rfl | exact ⟨rfl, rfl⟩)); (with_reducible first | exact fun w => SM.out w | exact fun w => D1.out w | exact fun w => D2.out w | exact fun w => D3.out w | exact fun w => E1.out w | exact fun w => E2.out w | exact fun w => E3.out w | exact fun w => P1.out w | exact fun w => P2.out w | exact fun w => P3'.out w | exact fun w => P4.out w | exact fun w => P5.out w | exact fun w => awake6 w); exact hq; clear hp hq; (try clear w1); intro w1 hp hq; simp only [zp, zq, z0, z1])
    ((with_reducible apply sd_l); exact zo rfl)
    ((with_reducible apply sd_call hp); exact rfl; (focus (intro _; go_simp; try first | with_reducible rfl | exact ⟨rfl, rfl⟩)); (with_reducible first | exact fun w => SM.out w | exact fun w => D1.out w | exact fun w => D2.out w | exact fun w => D3.out w | exact fun w => E1.out w | exact fun w => E2.out w | exact fun w => E3.out w | exact fun w => P1.out w | exact fun w => P2.out w | exact fun w => P3'.out w | exact fun w => P4.out w | exact fun w => P5.out w | exact fun w => awake6 w); exact hq; clear hp hq; (try clear w1); intro w1 hp hq; simp only [zp, zq, z0, z1])
    ((with_reducible apply sd_l); exact zo rfl)
    ((with_reducible apply sd_call hp); exact rfl; (focus (intro _; go_simp; try first | with_reducible rfl | exact ⟨rfl, rfl⟩)); (with_reducible first | exact fun w => SM.out w | exact fun w => D1.out w | exact fun w => D2.out w | exact fun w => D3.out w | exact fun w => E1.out w | exact fun w => E2.out w | exact fun w => E3.out w | exact fun w => P1.out w | exact fun w => P2.out w | exact fun w => P3'.out w | exact fun w => P4.out w | exact fun w => P5.out w | exact fun w => awake6 w); exact hq; clear hp hq; (try clear w1); intro w1 hp hq; simp only [zp, zq, z0, z1])
    ((with_reducible apply sd_l); exact zo rfl)
    ((with_reducible apply sd_call hp); exact rfl; (focus (intro _; go_simp; try first | with_reducible rfl | exact ⟨rfl, rfl⟩)); (with_reducible first | exact fun w => SM.out w | exact fun w => D1.out w | exact fun w => D2.out w | exact fun w => D3.out w | exact fun w => E1.out w | exact fun w => E2.out w | exact fun w => E3.out w | exact fun w => P1.out w | exact fun w => P2.out w | exact fun w => P3'.out w | exact fun w => P4.out w | exact fun w => P5.out w | exact fun w => awake6 w); exact hq; clear hp hq; (try clear w1); intro w1 hp hq; simp only [zp, zq, z0, z1])
    ((with_reducible apply sd_q); exact zo rfl)
    ((with_reducible apply sd_pure hp); exact rfl; (focus (intro _; go_simp; (try go_ints); try with_reducible rfl)); simp only [zp, zq, z0, z1])
    ((with_reducible apply sd_q); exact zo rfl)
    ((with_reducible apply sd_move hp); exact zb rfl; simp only [zp, zq, z0, z1])
    ((with_reducible apply sd_q); exact zo rfl)
    (first
      | ((with_reducible apply sd_load_agg hp); exact rfl; exact zt rfl; infer_instance; infer_instance; (first | exact zl rfl | exact LB_le (by omega)); (first | (with_reducible exact LB_set (by omega)) | (simp only [n0, Nat.reduceAdd, n1, n2, n3, n4, n5, n6, n7, n8, n9]; try rfl)); simp only [zp, zq, z0, z1])
      | ((with_reducible apply sd_skip hp); exact rfl; simp only [zp, zq, z0, z1]))
    ((with_reducible apply sd_q); exact zo rfl)
    (first
      | ((with_reducible apply sd_pure hp); exact rfl; (focus (intro _; go_simp; (try go_ints); try with_reducible rfl)); simp only [zp, zq, z0, z1])
      | ((with_reducible apply sd_skip hp); exact rfl; simp only [zp, zq, z0, z1]))
    ((with_reducible apply sd_q); exact zo rfl)
    (first
      | ((with_reducible apply sd_load_agg hp); exact rfl; exact zt rfl; infer_instance; infer_instance; (first | exact zl rfl | exact LB_le (by omega)); (first | (with_reducible exact LB_set (by omega)) | (simp only [n0, Nat.reduceAdd, n1, n2, n3, n4, n5, n6, n7, n8, n9]; try rfl)); simp only [zp, zq, z0, z1])
      | ((with_reducible apply sd_skip hp); exact rfl; simp only [zp, zq, z0, z1]))
    ((with_reducible apply sd_q); exact zo rfl)
    (first
      | ((with_reducible apply sd_pure hp); exact rfl; (focus (intro _; go_simp; (try go_ints); try with_reducible rfl)); simp only [zp, zq, z0, z1])
      | ((with_reducible apply sd_skip hp); exact rfl; simp only [zp, zq, z0, z1]))
    ((with_reducible apply sd_q); exact zo rfl)
    (first
      | ((with_reducible apply sd_load_agg hp); exact rfl; exact zt rfl; infer_instance; infer_instance; (first | exact zl rfl | exact LB_le (by omega)); (first | (with_reducible exact LB_set (by omega)) | (simp only [n0, Nat.reduceAdd, n1, n2, n3, n4, n5, n6, n7, n8, n9]; try rfl)); simp only [zp, zq, z0, z1])
      | ((with_reducible apply sd_skip hp); exact rfl; simp only [zp, zq, z0, z1]))
    ((with_reducible apply sd_q); exact zo rfl)
    (first
      | ((with_reducible apply sd_pure hp); exact rfl; (focus (intro _; go_simp; (try go_ints); try with_reducible rfl)); simp only [zp, zq, z0, z1])
      | ((with_reducible apply sd_skip hp); exact rfl; simp only [zp, zq, z0, z1]))
    ((with_reducible apply sd_q); exact zo rfl)
    (first
      | ((with_reducible apply sd_load_agg hp); exact rfl; exact zt rfl; infer_instance; infer_instance; (first | exact zl rfl | exact LB_le (by omega)); (first | (with_reducible exact LB_set (by omega)) | (simp only [n0, Nat.reduceAdd, n1, n2, n3, n4, n5, n6, n7, n8, n9]; try rfl)); simp only [zp, zq, z0, z1])
      | ((with_reducible apply sd_skip hp); exact rfl; simp only [zp, zq, z0, z1]))
    ((with_reducible apply sd_q); exact zo rfl)
    (first
      | ((with_reducible apply sd_pure hp); exact rfl; (focus (intro _; go_simp; (try go_ints); try with_reducible rfl)); simp only [zp, zq, z0, z1])
      | ((with_reducible apply sd_skip hp); exact rfl; simp only [zp, zq, z0, z1]))
    ((with_reducible apply sd_q); exact zo rfl)
    (first
      | ((with_reducible apply sd_load_agg hp); exact rfl; exact zt rfl; infer_instance; infer_instance; (first | exact zl rfl | exact LB_le (by omega)); (first | (with_reducible exact LB_set (by omega)) | (simp only [n0, Nat.reduceAdd, n1, n2, n3, n4, n5, n6, n7, n8, n9]; try rfl)); simp only [zp, zq, z0, z1])
      | ((with_reducible apply sd_skip hp); exact rfl; simp only [zp, zq, z0, z1]))
    ((with_reducible apply sd_q); exact zo rfl)
    (first
      | ((with_reducible apply sd_pure hp); exact rfl; (focus (intro _; go_simp; (try go_ints); try with_reducible rfl)); simp only [zp, zq, z0, z1])
      | ((with_reducible apply sd_skip hp); exact rfl; simp only [zp, zq, z0, z1]))
    ((with_reducible apply sd_q); exact zo rfl)
    (first
      | ((with_reducible apply sd_load_agg hp); exact rfl; exact zt rfl; infer_instance; infer_instance; (first | exact zl rfl | exact LB_le (by omega)); (first | (with_reducible exact LB_set (by omega)) | (simp only [n0, Nat.reduceAdd, n1, n2, n3, n4, n5, n6, n7, n8, n9]; try rfl)); simp only [zp, zq, z0, z1])
      | ((with_reducible apply sd_skip hp); exact rfl; simp only [zp, zq, z0, z1]))
    ((with_reducible apply sd_q); exact zo rfl)
    (first
      | ((with_reducible apply sd_pure hp); exact rfl; (focus (intro _; go_simp; (try go_ints); try with_reducible rfl)); simp only [zp, zq, z0, z1])
      | ((with_reducible apply sd_skip hp); exact rfl; simp only [zp, zq, z0, z1]))
    ((with_reducible apply sd_q); exact zo rfl)
    (first
      | ((with_reducible apply sd_load_agg hp); exact rfl; exact zt rfl; infer_instance; infer_instance; (first | exact zl rfl | exact LB_le (by omega)); (first | (with_reducible exact LB_set (by omega)) | (simp only [n0, Nat.reduceAdd, n1, n2, n3, n4, n5, n6, n7, n8, n9]; try rfl)); simp only [zp, zq, z0, z1])
      | ((with_reducible apply sd_skip hp); exact rfl; simp only [zp, zq, z0, z1]))
    ((with_reducible apply sd_l); exact zo rfl)
    (first
      | ((with_reducible apply sd_call hp); exact rfl; (focus (intro _; go_simp; try first | with_reducible rfl | exact ⟨rfl, rfl⟩)); (with_reducible first | exact fun w => SM.out w | exact fun w => D1.out w | exact fun w => D2.out w | exact fun w => D3.out w | exact fun w => E1.out w | exact fun w => E2.out w | exact fun w => E3.out w | exact fun w => P1.out w | exact fun w => P2.out w | exact fun w => P3'.out w | exact fun w => P4.out w | exact fun w => P5.out w | exact fun w => awake6 w); exact hq; clear hp hq; (try clear w1); intro w1 hp hq; simp only [zp, zq, z0, z1])
      | ((with_reducible apply sd_skip_loud hp); exact rfl; simp only [zp, zq, z0, z1]))
    ((with_reducible apply sd_l); exact zo rfl)
    (first
      | ((with_reducible apply sd_call hp); exact rfl; (focus (intro _; go_simp; try first | with_reducible rfl | exact ⟨rfl, rfl⟩)); (with_reducible first | exact fun w => SM.out w | exact fun w => D1.out w | exact fun w => D2.out w | exact fun w => D3.out w | exact fun w => E1.out w | exact fun w => E2.out w | exact fun w => E3.out w | exact fun w => P1.out w | exact fun w => P2.out w | exact fun w => P3'.out w | exact fun w => P4.out w | exact fun w => P5.out w | exact fun w => awake6 w); exact hq; clear hp hq; (try clear w1); intro w1 hp hq; simp only [zp, zq, z0, z1])
      | ((with_reducible apply sd_skip_loud hp); exact rfl; simp only [zp, zq, z0, z1]))
    ((with_reducible apply sd_l); exact zo rfl)
    (first
      | ((with_reducible apply sd_call hp); exact rfl; (focus (intro _; go_simp; try first | with_reducible rfl | exact ⟨rfl, rfl⟩)); (with_reducible first | exact fun w => SM.out w | exact fun w => D1.out w | exact fun w => D2.out w | exact fun w => D3.out w | exact fun w => E1.out w | exact fun w => E2.out w | exact fun w => E3.out w | exact fun w => P1.out w | exact fun w => P2.out w | exact fun w => P3'.out w | exact fun w => P4.out w | exact fun w => P5.out w | exact fun w => awake6 w); exact hq; clear hp hq; (try clear w1); intro w1 hp hq; simp only [zp, zq, z0, z1])
      | ((with_reducible apply sd_skip_loud hp); exact rfl; simp only [zp, zq, z0, z1]))
    ((with_reducible apply sd_q); exact zo rfl)
    (first
      | ((with_reducible apply sd_pure hp); exact rfl; (focus (intro _; go_simp; (try go_ints); try with_reducible rfl)); simp only [zp, zq, z0, z1])
      | ((with_reducible apply sd_skip hp); exact rfl; simp only [zp, zq, z0, z1]))
    ((with_reducible apply sd_q); exact zo rfl)
    (first
      | ((with_reducible apply sd_pure hp); exact rfl; (focus (intro _; go_simp; (try go_ints); try with_reducible rfl)); simp only [zp, zq, z0, z1])
      | ((with_reducible apply sd_skip hp); exact rfl; simp only [zp, zq, z0, z1]))
    ((with_reducible apply sd_q); exact zo rfl)
    ((with_reducible apply sd_pure hp); exact rfl; (focus (intro _; go_simp; (try go_ints); try with_reducible rfl)); simp only [zp, zq, z0, z1])
    ((with_reducible apply sd_q); exact zo rfl)
    ((with_reducible apply sd_move hp); exact zb rfl; simp only [zp, zq, z0, z1])
    ((with_reducible apply sd_q); exact zo rfl)
    (first
      | ((with_reducible apply sd_load_agg hp); exact rfl; exact zt rfl; infer_instance; infer_instance; (first | exact zl rfl | exact LB_le (by omega)); (first | (with_reducible exact LB_set (by omega)) | (simp only [n0, Nat.reduceAdd, n1, n2, n3, n4, n5, n6, n7, n8, n9]; try rfl)); simp only [zp, zq, z0, z1])
      | ((with_reducible apply sd_skip hp); exact rfl; simp only [zp, zq, z0, z1]))
    ((with_reducible apply sd_q); exact zo rfl)
    (first
      | ((with_reducible apply sd_load_agg hp); exact rfl; exact zt rfl; infer_instance; infer_instance; (first | exact zl rfl | exact LB_le (by omega)); (first | (with_reducible exact LB_set (by omega)) | (simp only [n0, Nat.reduceAdd, n1, n2, n3, n4, n5, n6, n7, n8, n9]; try rfl)); simp only [zp, zq, z0, z1])
      | ((with_reducible apply sd_skip hp); exact rfl; simp only [zp, zq, z0, z1]))
    ((with_reducible apply sd_q); exact zo rfl)
    (first
      | ((with_reducible apply sd_load_agg hp); exact rfl; exact zt rfl; infer_instance; infer_instance; (first | exact zl rfl | exact LB_le (by omega)); (first | (with_reducible exact LB_set (by omega)) | (simp only [n0, Nat.reduceAdd, n1, n2, n3, n4, n5, n6, n7, n8, n9]; try rfl)); simp only [zp, zq, z0, z1])
      | ((with_reducible apply sd_skip hp); exact rfl; simp only [zp, zq, z0, z1]))
    ((with_reducible apply sd_q); exact zo rfl)
    (first
      | ((with_reducible apply sd_load_agg hp); exact rfl; exact zt rfl; infer_instance; infer_instance; (first | exact zl rfl | exact LB_le (by omega)); (first | (with_reducible exact LB_set (by omega)) | (simp only [n0, Nat.reduceAdd, n1, n2, n3, n4, n5, n6, n7, n8, n9]; try rfl)); simp only [zp, zq, z0, z1])
      | ((with_reducible apply sd_skip hp); exact rfl; simp only [zp, zq, z0, z1]))
    ((with_reducible apply sd_q); exact zo rfl)
    (first
      | ((with_reducible apply sd_load_agg hp); exact rfl; exact zt rfl; infer_instance; infer_instance; (first | exact zl rfl | exact LB_le (by omega)); (first | (with_reducible exact LB_set (by omega)) | (simp only [n0, Nat.reduceAdd, n1, n2, n3, n4, n5, n6, n7, n8, n9]; try rfl)); simp only [zp, zq, z0, z1])
      | ((with_reducible apply sd_skip hp); exact rfl; simp only [zp, zq, z0, z1]))
    ((with_reducible apply sd_q); exact zo rfl)
    (first
      | ((with_reducible apply sd_load_agg hp); exact rfl; exact zt rfl; infer_instance; infer_instance; (first | exact zl rfl | exact LB_le (by omega)); (first | (with_reducible exact LB_set (by omega)) | (simp only [n0, Nat.reduceAdd, n1, n2, n3, n4, n5, n6, n7, n8, n9]; try rfl)); simp only [zp, zq, z0, z1])
      | ((with_reducible apply sd_skip hp); exact rfl; simp only [zp, zq, z0, z1]))
    ((with_reducible apply sd_q); exact zo rfl)
    (first
      | ((with_reducible apply sd_load_agg hp); exact rfl; exact zt rfl; infer_instance; infer_instance; (first | exact zl rfl | exact LB_le (by omega)); (first | (with_reducible exact LB_set (by omega)) | (simp only [n0, Nat.reduceAdd, n1, n2, n3, n4, n5, n6, n7, n8, n9]; try rfl)); simp only [zp, zq, z0, z1])
      | ((with_reducible apply sd_skip hp); exact rfl; simp only [zp, zq, z0, z1]))
    ((with_reducible apply sd_q); exact zo rfl)
    (first
      | ((with_reducible apply sd_load_agg hp); exact rfl; exact zt rfl; infer_instance; infer_instance; (first | exact zl rfl | exact LB_le (by omega)); (first | (with_reducible exact LB_set (by omega)) | (simp only [n0, Nat.reduceAdd, n1, n2, n3, n4, n5, n6, n7, n8, n9]; try rfl)); simp only [zp, zq, z0, z1])
      | ((with_reducible apply sd_skip hp); exact rfl; simp only [zp, zq, z0, z1]))
    ((with_reducible apply sd_q); exact zo rfl)
    (first
      | ((with_reducible apply sd_load_agg hp); exact rfl; exact zt rfl; infer_instance; infer_instance; (first | exact zl rfl | exact LB_le (by omega)); (first | (with_reducible exact LB_set (by omega)) | (simp only [n0, Nat.reduceAdd, n1, n2, n3, n4, n5, n6, n7, n8, n9]; try rfl)); simp only [zp, zq, z0, z1])
      | ((with_reducible apply sd_skip hp); exact rfl; simp only [zp, zq, z0, z1]))
    ((with_reducible apply sd_q); exact zo rfl)
    (first
      | ((with_reducible apply sd_load_agg hp); exact rfl; exact zt rfl; infer_instance; infer_instance; (first | exact zl rfl | exact LB_le (by omega)); (first | (with_reducible exact LB_set (by omega)) | (simp only [n0, Nat.reduceAdd, n1, n2, n3, n4, n5, n6, n7, n8, n9]; try rfl)); simp only [zp, zq, z0, z1])
      | ((with_reducible apply sd_skip hp); exact rfl; simp only [zp, zq, z0, z1]))
    ((with_reducible apply sd_l); exact zo rfl)
    (first
      | ((with_reducible apply sd_call hp); exact rfl; (focus (intro _; go_simp; try first | with_reducible rfl | exact ⟨rfl, rfl⟩)); (with_reducible first | exact fun w => SM.out w | exact fun w => D1.out w | exact fun w => D2.out w | exact fun w => D3.out w | exact fun w => E1.out w | exact fun w => E2.out w | exact fun w => E3.out w | exact fun w => P1.out w | exact fun w => P2.out w | exact fun w => P3'.out w | exact fun w => P4.out w | exact fun w => P5.out w | exact fun w => awake6 w); exact hq; clear hp hq; (try clear w1); intro w1 hp hq; simp only [zp, zq, z0, z1])
      | ((with_reducible apply sd_skip_loud hp); exact rfl; simp only [zp, zq, z0, z1]))
    ((with_reducible apply sd_l); exact zo rfl)
    (first
      | ((with_reducible apply sd_call hp); exact rfl; (focus (intro _; go_simp; try first | with_reducible rfl | exact ⟨rfl, rfl⟩)); (with_reducible first | exact fun w => SM.out w | exact fun w => D1.out w | exact fun w => D2.out w | exact fun w => D3.out w | exact fun w => E1.out w | exact fun w => E2.out w | exact fun w => E3.out w | exact fun w => P1.out w | exact fun w => P2.out w | exact fun w => P3'.out w | exact fun w => P4.out w | exact fun w => P5.out w | exact fun w => awake6 w); exact hq; clear hp hq; (try clear w1); intro w1 hp hq; simp only [zp, zq, z0, z1])
      | ((with_reducible apply sd_skip_loud hp); exact rfl; simp only [zp, zq, z0, z1]))
    ((with_reducible apply sd_l); exact zo rfl)
    (first
      | ((with_reducible apply sd_call hp); exact rfl; (focus (intro _; go_simp; try first | with_reducible rfl | exact ⟨rfl, rfl⟩)); (with_reducible first | exact fun w => SM.out w | exact fun w => D1.out w | exact fun w => D2.out w | exact fun w => D3.out w | exact fun w => E1.out w | exact fun w => E2.out w | exact fun w => E3.out w | exact fun w => P1.out w | exact fun w => P2.out w | exact fun w => P3'.out w | exact fun w => P4.out w | exact fun w => P5.out w | exact fun w => awake6 w); exact hq; clear hp hq; (try clear w1); intro w1 hp hq; simp only [zp, zq, z0, z1])
      | ((with_reducible apply sd_skip_loud hp); exact rfl; simp only [zp, zq, z0, z1]))
    ((with_reducible apply sd_l); exact zo rfl)
    (first
      | ((with_reducible apply sd_call hp); exact rfl; (focus (intro _; go_simp; try first | with_reducible rfl | exact ⟨rfl, rfl⟩)); (with_reducible first | exact fun w => SM.out w | exact fun w => D1.out w | exact fun w => D2.out w | exact fun w => D3.out w | exact fun w => E1.out w | exact fun w => E2.out w | exact fun w => E3.out w | exact fun w => P1.out w | exact fun w => P2.out w | exact fun w => P3'.out w | exact fun w => P4.out w | exact fun w => P5.out w | exact fun w => awake6 w); exact hq; clear hp hq; (try clear w1); intro w1 hp hq; simp only [zp, zq, z0, z1])
      | ((with_reducible apply sd_skip_loud hp); exact rfl; simp only [zp, zq, z0, z1]))
    ((with_reducible apply sd_l); exact zo rfl)
    (first
      | ((with_reducible apply sd_call hp); exact rfl; (focus (intro _; go_simp; try first | with_reducible rfl | exact ⟨rfl, rfl⟩)); (with_reducible first | exact fun w => SM.out w | exact fun w => D1.out w | exact fun w => D2.out w | exact fun w => D3.out w | exact fun w => E1.out w | exact fun w => E2.out w | exact fun w => E3.out w | exact fun w => P1.out w | exact fun w => P2.out w | exact fun w => P3'.out w | exact fun w => P4.out w | exact fun w => P5.out w | exact fun w => awake6 w); exact hq; clear hp hq; (try clear w1); intro w1 hp hq; simp only [zp, zq, z0, z1])
      | ((with_reducible apply sd_skip_loud hp); exact rfl; simp only [zp, zq, z0, z1]))
    ((with_reducible apply sd_q); exact zo rfl)
    (first
      | ((with_reducible apply sd_pure hp); exact rfl; (focus (intro _; go_simp; (try go_ints); try with_reducible rfl)); simp only [zp, zq, z0, z1])
      | ((with_reducible apply sd_skip hp); exact rfl; simp only [zp, zq, z0, z1]))
    ((with_reducible apply sd_q); exact zo rfl)
    ((with_reducible apply sd_pure hp); exact rfl; (focus (intro _; go_simp; (try go_ints); try with_reducible rfl)); simp only [zp, zq, z0, z1])
    ((with_reducible apply sd_q); exact zo rfl)
    ((with_reducible apply sd_move hp); exact zb rfl; simp only [zp, zq, z0, z1])
    ((with_reducible apply sd_l); exact zo rfl)
    (first
      | ((with_reducible apply sd_call hp); exact rfl; (focus (intro _; go_simp; try first | with_reducible rfl | exact ⟨rfl, rfl⟩)); (with_reducible first | exact fun w => SM.out w | exact fun w => D1.out w | exact fun w => D2.out w | exact fun w => D3.out w | exact fun w => E1.out w | exact fun w => E2.out w | exact fun w => E3.out w | exact fun w => P1.out w | exact fun w => P2.out w | exact fun w => P3'.out w | exact fun w => P4.out w | exact fun w => P5.out w | exact fun w => awake6 w); exact hq; clear hp hq; (try clear w1); intro w1 hp hq; simp only [zp, zq, z0, z1])
      | ((with_reducible apply sd_skip_loud hp); exact rfl; simp only [zp, zq, z0, z1]))
    ((with_reducible apply sd_q); exact zo rfl)
    ((with_reducible apply sd_pure hp); exact rfl; (focus (intro _; go_simp; (try go_ints); try with_reducible rfl)); simp only [zp, zq, z0, z1])
    ((with_reducible apply sd_q); exact zo rfl)
    ((with_reducible apply sd_assign hp); exact zb rfl; simp only [zp, zq, z0, z1])
    (with_reducible apply sd_nil)
    clear hp; have hp := hq; clear hq
    go_wp2
    exact bodyPost_ret (results_one rfl rfl) rfl ⟨rfl, hp.keep⟩
def P3.plus (a b : P3) : P3 := ⟨a.x + b.x, a.y + b.y, a.z + b.z⟩
theorem little_i64 {p : P3} (h : p.little) : p.i64 := by
  unfold P3.little at h
  unfold P3.i64 I64
  omega
theorem little_plus {p q : P3} (h : p.little) (k : q.little) : (p.plus q).i64 := by
  unfold P3.little at h k
  unfold P3.plus P3.i64 I64
  dsimp only
  omega
theorem plus_cross (a b c : P3) : ((a.plus b).cross c).x = (a.cross c).x + (b.cross c).x ∧ ((a.plus b).cross c).y = (a.cross c).y + (b.cross c).y ∧ ((a.plus b).cross c).z = (a.cross c).z + (b.cross c).z := by
  unfold P3.plus P3.cross
  dsimp only
  grind
theorem plus_dot (a b c : P3) : (a.plus b).dot c = a.dot c + b.dot c := by
  unfold P3.plus P3.dot
  dsimp only
  grind
theorem plus_det (a b c d : P3) : P3.det (a.plus b) c d = P3.det a c d + P3.det b c d := by
  unfold P3.det P3.plus P3.dot
  dsimp only
  grind
theorem fit_plus {a b : Int} (ha : -(10 : Int) ^ 62 ≤ a ∧ a ≤ 10 ^ 62) (hb : -(10 : Int) ^ 62 ≤ b ∧ b ≤ 10 ^ 62) : Fit a ∧ Fit b ∧ Fit (a + b) := by
  unfold Fit M511
  omega
theorem linear_law (a : P3) (ha : a.i64) (b : P3) (hb : b.i64) (c : P3) (hc : c.i64) (d : P3) (hd : d.i64) (w : World) : Calls Try.prog 9 #[PV a, PV b, PV c, PV d] w (Ret (.bool true) w) := by
  have S1 := little_any a
  have S2 := little_any b
  have S3 := little_any c
  have S4 := little_any d
  by_cases h : a.little ∧ b.little ∧ c.little ∧ d.little
  · obtain ⟨h1, h2, h3, h4⟩ := h
    rw [decide_eq_true h1] at S1
    rw [decide_eq_true h2] at S2
    rw [decide_eq_true h3] at S3
    rw [decide_eq_true h4] at S4
    have hs := little_plus h1 h2
    obtain ⟨e1, e2, e3⟩ := plus_cross a b c
    obtain ⟨x1, x2, x3⟩ := cross_i64_fit ha hc
    obtain ⟨y1, y2, y3⟩ := cross_i64_fit hb hc
    have k1 := fit_plus (a := (a.cross c).x) (b := (b.cross c).x) (by omega) (by omega)
    have k2 := fit_plus (a := (a.cross c).y) (b := (b.cross c).y) (by omega) (by omega)
    have k3 := fit_plus (a := (a.cross c).z) (b := (b.cross c).z) (by omega) (by omega)
    have d1 := dot_b129 ha hc
    have d2 := dot_b129 hb hc
    have k4 := fit_plus (a := a.dot c) (b := b.dot c) (by omega) (by omega)
    have t1 := det_bd ha hc hd
    have t2 := det_bd hb hc hd
    have k5 := fit_plus (a := P3.det a c d) (b := P3.det b c d) (by omega) (by omega)
    refine linear_core a b c d (a.plus b) _ _ _ _ _ _ ((a.plus b).cross c).x ((a.plus b).cross c).y ((a.plus b).cross c).z _ _ ((a.plus b).dot c) _ _ (P3.det (a.plus b) c d) (Lib.hid S1) (Lib.hid S2) (Lib.hid S3) (Lib.hid S4)
      (Lib.hid (sum_any a b _ _ _ rfl rfl rfl hs)) (Lib.hid (cross_any a c ha hc)) (Lib.hid (cross_any b c hb hc)) (Lib.hid (cross_any _ c hs hc))
      (Lib.hid (dot_any a c ha hc)) (Lib.hid (dot_any b c hb hc)) (Lib.hid (dot_any _ c hs hc)) (Lib.hid (det_any a c d ha hc hd)) (Lib.hid (det_any b c d hb hc hd)) (Lib.hid (det_any _ c d hs hc hd))
      (Lib.hid ?_) (Lib.hid ?_) (Lib.hid ?_) (Lib.hid ?_) (Lib.hid ?_) w
    · rw [e1]; exact lplus_any _ _ k1.1 k1.2.1 k1.2.2
    · rw [e2]; exact lplus_any _ _ k2.1 k2.2.1 k2.2.2
    · rw [e3]; exact lplus_any _ _ k3.1 k3.2.1 k3.2.2
    · rw [plus_dot]; exact lplus_any _ _ k4.1 k4.2.1 k4.2.2
    · rw [plus_det]; exact lplus_any _ _ k5.1 k5.2.1 k5.2.2
  · refine linear_no a b c d _ _ _ _ ?_ (Lib.hid S1) (Lib.hid S2) (Lib.hid S3) (Lib.hid S4) w
    simp only [decide_eq_true_eq, decide_eq_false_iff_not]
    by_cases h1 : a.little
    · by_cases h2 : b.little
      · by_cases h3 : c.little
        · exact .inr (.inr (.inr ⟨h1, h2, h3, fun h4 => h ⟨h1, h2, h3, h4⟩⟩))
        · exact .inr (.inr (.inl ⟨h1, h2, h3⟩))
      · exact .inr (.inl ⟨h1, h2⟩)
    · exact .inl h1
end Go.Proofs.Ytbhlnbllkoomfaa
