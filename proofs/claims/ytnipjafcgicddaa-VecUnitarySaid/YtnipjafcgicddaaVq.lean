/-
  ninepinlaw03: inner, opposite, VecTurned, VecTriangle, VecSame (contracts).
  ninepinlaw03: square, VecLength, VecSame, VecBack (contracts).
  ninepinlaw03: VecSame, VecBack, VecUnitary (contracts).
-/
import Derived.Test.YtnipjafcgicddaaVl
set_option linter.unusedSimpArgs false
set_option linter.unusedVariables false
set_option maxRecDepth 100000
namespace Go.Proofs.Ytnipjafcgicddaa
open Go Go.RowKit
attribute [local irreducible] wpList

def innr (n : Int) : Prop := -9223372036854775807 < n ∧ n < 9223372036854775807
instance (n : Int) : Decidable (innr n) := inferInstanceAs (Decidable (_ ∧ _))
set_option maxHeartbeats 1000000 in
theorem inner_any (n : Int) (w : World) : Calls Try.prog 40 #[.int .i64 n] w (Ret (.bool (decide (innr n))) w) := by
  by_cases h1 : -9223372036854775807 < n
  · have e : decide (innr n) = decide (n < 9223372036854775807) := decide_eq_decide.2 ⟨fun h => h.2, fun h => ⟨h1, h⟩⟩
    rw [e]
    clear e
    go_enter Try.func40, Try.ntmps40
    have hp := Hp.start [] w
    go_wp2_with (first
          | ((with_reducible apply sx_guard); (conv => whnf); refine Bx.mk ?_; (try simp only [zp, zq, z0, z1])))
    exact bodyPost_ret (results_one rfl rfl) rfl ⟨rfl, hp.keep⟩
  · have e : decide (innr n) = false := decide_eq_false fun h => h1 h.1
    rw [e]
    have hb : decide (-9223372036854775807 < n) = false := decide_eq_false h1
    clear e h1
    go_enter Try.func40, Try.ntmps40
    have hp := Hp.start [] w
    go_wp2_with (first
          | ((with_reducible apply sx_guard); (conv => whnf); refine Bx.mk ?_; (try simp only [zp, zq, z0, z1])))
    exact bodyPost_ret (results_one rfl rfl) rfl ⟨rfl, hp.keep⟩
set_option maxHeartbeats 2000000 in
theorem opposite_core (a b : Int) (x y : Bool) (IA : Hid (∀ w, Calls Try.prog 40 #[.int .i64 a] w (Ret (.bool x) w))) (IB : Hid (∀ w, Calls Try.prog 40 #[.int .i64 b] w (Ret (.bool y) w)))
    (h : x = false ∨ (x = true ∧ y = false) ∨ (x = true ∧ y = true ∧ (b == -a) = true ∧ innr a) ∨ (x = true ∧ y = true ∧ (b == -a) = false ∧ (b == -a - 1) = true ∧ innr a)) (w : World) : Calls Try.prog 22 #[.int .i64 a, .int .i64 b] w (Ret (.bool true) w) := by
  rcases h with rfl | ⟨rfl, rfl⟩ | ⟨rfl, rfl, h, h1, h2⟩ | ⟨rfl, rfl, h, h0, h1, h2⟩
  · skip
    go_enter Try.func22, Try.ntmps22
    have hp := Hp.start [] w
    go_wp2_with (first
          | ((with_reducible apply sx_guard); (conv => whnf); refine Bx.mk ?_; (try simp only [zp, zq, z0, z1]))
          | ((with_reducible first | refine sx_call hp (IA.out _) ?_ | refine sx_call hp (IB.out _) ?_); clear hp; (try clear w1); intro w1 hp))
    exact bodyPost_ret (results_one rfl rfl) rfl ⟨rfl, hp.keep⟩
  · skip
    go_enter Try.func22, Try.ntmps22
    have hp := Hp.start [] w
    go_wp2_with (first
          | ((with_reducible apply sx_guard); (conv => whnf); refine Bx.mk ?_; (try simp only [zp, zq, z0, z1]))
          | ((with_reducible first | refine sx_call hp (IA.out _) ?_ | refine sx_call hp (IB.out _) ?_); clear hp; (try clear w1); intro w1 hp))
    exact bodyPost_ret (results_one rfl rfl) rfl ⟨rfl, hp.keep⟩
  · skip
    go_enter Try.func22, Try.ntmps22
    have hp := Hp.start [] w
    go_wp2_with (first
          | ((with_reducible apply sx_guard); (conv => whnf); refine Bx.mk ?_; (try simp only [zp, zq, z0, z1]))
          | ((with_reducible first | refine sx_call hp (IA.out _) ?_ | refine sx_call hp (IB.out _) ?_); clear hp; (try clear w1); intro w1 hp))
    exact bodyPost_ret (results_one rfl rfl) rfl ⟨rfl, hp.keep⟩
  · skip
    go_enter Try.func22, Try.ntmps22
    have hp := Hp.start [] w
    go_wp2_with (first
          | ((with_reducible apply sx_guard); (conv => whnf); refine Bx.mk ?_; (try simp only [zp, zq, z0, z1]))
          | ((with_reducible first | refine sx_call hp (IA.out _) ?_ | refine sx_call hp (IB.out _) ?_); clear hp; (try clear w1); intro w1 hp))
    exact bodyPost_ret (results_one rfl rfl) rfl ⟨rfl, hp.keep⟩
theorem opposite_any (m : Int) (w : World) : Calls Try.prog 22 #[.int .i64 (cl (m / 4294967296)), .int .i64 (cl (-m / 4294967296))] w (Ret (.bool true) w) := by
  refine opposite_core _ _ _ _ (Lib.hid (inner_any _)) (Lib.hid (inner_any _)) ?_ w
  have key : innr (cl (m / 4294967296)) → innr (cl (-m / 4294967296)) → cl (-m / 4294967296) = -cl (m / 4294967296) ∨ cl (-m / 4294967296) = -cl (m / 4294967296) - 1 := by
    unfold innr cl
    intro h1 h2
    split at h1 <;> split at h2 <;> omega
  generalize cl (m / 4294967296) = a at *
  generalize cl (-m / 4294967296) = b at *
  by_cases ha : innr a
  · by_cases hb : innr b
    · have k := key ha hb
      by_cases h : b = -a
      · exact .inr (.inr (.inl ⟨decide_eq_true ha, decide_eq_true hb, by simp [h], ha⟩))
      · have h2 : b = -a - 1 := k.resolve_left h
        exact .inr (.inr (.inr ⟨decide_eq_true ha, decide_eq_true hb, by simp [h], by simp [h2], ha⟩))
    · exact .inr (.inl ⟨decide_eq_true ha, decide_eq_false hb⟩)
  · exact .inl (decide_eq_false ha)
set_option maxHeartbeats 4000000 in
theorem turned_core (a b c d : P3) (r : Int) (C1 : Hid (∀ w, Calls Try.prog 18 #[PV a, PV b] w (Ret (PV c) w))) (C2 : Hid (∀ w, Calls Try.prog 18 #[PV b, PV a] w (Ret (PV d) w)))
    (C3 : Hid (∀ w, Calls Try.prog 18 #[PV a, PV a] w (Ret (.agg #[.int .i64 0, .int .i64 0, .int .i64 0]) w)))
    (D1 : Hid (∀ w, Calls Try.prog 15 #[PV a, PV b] w (Ret (.int .i64 r) w))) (D2 : Hid (∀ w, Calls Try.prog 15 #[PV b, PV a] w (Ret (.int .i64 r) w)))
    (O1 : Hid (∀ w, Calls Try.prog 22 #[.int .i64 c.x, .int .i64 d.x] w (Ret (.bool true) w)))
    (O2 : Hid (∀ w, Calls Try.prog 22 #[.int .i64 c.y, .int .i64 d.y] w (Ret (.bool true) w)))
    (O3 : Hid (∀ w, Calls Try.prog 22 #[.int .i64 c.z, .int .i64 d.z] w (Ret (.bool true) w))) (w : World) : Calls Try.prog 6 #[PV a, PV b] w (Ret (.bool true) w) := by
  obtain ⟨ax, ay, az⟩ := a
  obtain ⟨bx, by', bz⟩ := b
  obtain ⟨cx, cy, cz⟩ := c
  obtain ⟨dx, dy, dz⟩ := d
  dsimp only at O1 O2 O3
  go_enter Try.func6, Try.ntmps6
  have hp := Hp.start [] w
  go_upto_region 1 with (first
          | ((with_reducible apply sx_box hp); (first | exact za rfl | exact zu rfl | exact zi rfl | exact zb rfl | exact zr rfl | exact zs rfl | exact zf rfl | exact zg rfl | exact zn rfl | exact zv rfl | exact zw rfl); exact rfl; clear hp; (try clear w1); intro g w1 hp; simp only [zp, zq, z0, z1])
          | ((with_reducible apply sx_alloc hp); infer_instance; exact rfl; clear hp; (try clear w1); intro g w1 hp; simp only [zp, zq, z0, z1]))
  rename_i ga K hK
  obtain ⟨gb, rfl⟩ : ∃ k : Nat, k = g := ⟨_, rfl⟩
  go_cut [5, 6] (fun s1 s2 wx => ∃ g1 g2, s1 = .pointer (some ⟨g1, 0, none⟩) ∧ s2 = .pointer (some ⟨g2, 0, none⟩) ∧ Hp [] w [⟨g2, 24, [.int .i64 dx, .int .i64 dy, .int .i64 dz]⟩, ⟨g1, 24, [.int .i64 cx, .int .i64 cy, .int .i64 cz]⟩, ⟨gb, 24, [.int .i64 bx, .int .i64 by', .int .i64 bz]⟩, ⟨ga, 24, [.int .i64 ax, .int .i64 ay, .int .i64 az]⟩] wx)
  case first =>
    skip
    have hq := hp
    refine wp_drawnG_hp hp hq [9] (.q 0 (.q 1 (.q 3 (.q 4 (.p 2 (.p 5 (.alt 6 (.l 7 (.l 8 (.l 9 .nil))) (.l 7 (.l 6 (.l 8 (.l 9 .nil))))))))))) (by kernel_rfl) (by kernel_rfl) ?_
    clear hp hq; (try clear w1); intro w1 hp hq
    repeat' (first
      | (((with_reducible apply sg_q); exact zo rfl); (first
          | ((with_reducible apply sg_load_agg hp); exact rfl; exact zt rfl; infer_instance; infer_instance; (first | exact zl rfl | exact LB_le (by omega)); (first | (with_reducible exact LB_set (by omega)) | (simp only [n0, Nat.reduceAdd, n1, n2, n3, n4, n5, n6, n7, n8, n9]; try rfl)); simp only [zp, zq, z0, z1])
          | ((with_reducible apply sg_pure hp); exact rfl; (focus (intro _; go_simp; (try go_ints); try with_reducible rfl)); simp only [zp, zq, z0, z1])))
      | (((with_reducible apply sg_p); exact zo rfl); ((with_reducible apply sg_call hp); exact rfl; (focus (intro _; go_simp; try first | with_reducible rfl | exact ⟨rfl, rfl⟩)); (with_reducible first | exact fun w => C1.out w | exact fun w => C2.out w); simp only [zp, zq, z0, z1]))
      | (((with_reducible apply sg_l); exact zo rfl); (first
          | ((with_reducible apply sg_alloc hq); (repeat (first | exact List.Sublist.refl _ | apply List.Sublist.cons)); exact rfl; infer_instance; exact rfl; clear hp hq; (try clear w1); intro g w1 hp hq; simp only [zp, zq, z0, z1])
          | ((with_reducible apply sg_store_far hq); exact rfl; exact zt rfl; (first | exact za rfl | exact zu rfl | exact zi rfl | exact zb rfl | exact zr rfl | exact zs rfl | exact zf rfl | exact zg rfl | exact zn rfl | exact zv rfl | exact zw rfl); exact rfl; (first | exact AggTy.size | exact OneTy.size); exact rfl; infer_instance; (first | (with_reducible exact LB_set (by omega)) | (simp only [n0, Nat.reduceAdd, n1, n2, n3, n4, n5, n6, n7, n8, n9]; try rfl)); (first | exact zl rfl | exact LB_le (by omega)); exact rfl; infer_instance; (repeat (first | exact List.Sublist.refl _ | apply List.Sublist.cons)); clear hp hq; (try clear w1); intro w1 hp hq)
          | ((with_reducible apply sg_store hq); exact rfl; exact zt rfl; (first | exact za rfl | exact zu rfl | exact zi rfl | exact zb rfl | exact zr rfl | exact zs rfl | exact zf rfl | exact zg rfl | exact zn rfl | exact zv rfl | exact zw rfl); exact rfl; (first | exact AggTy.size | exact OneTy.size); exact rfl; infer_instance; (first | (with_reducible exact LB_set (by omega)) | (simp only [n0, Nat.reduceAdd, n1, n2, n3, n4, n5, n6, n7, n8, n9]; try rfl)); (first | exact zl rfl | exact LB_le (by omega)); exact rfl; infer_instance; exact rfl; clear hp hq; (try clear w1); intro w1 hq; have hp := True.intro)))
      | (with_reducible apply sg_alt)
      | ((with_reducible apply sg_nil hq); clear hp hq; (try clear w1); intro w1 hp))
    all_goals (go_wp2_with fail; go_meet; exact ⟨_, _, rfl, rfl, by first | exact hp | exact hp.perm (.swap _ _ _)⟩)
  case rest =>
    clear hp
    obtain ⟨g1, g2, rfl, rfl, hp⟩ := hcut
    go_upto_region 2 with fail
    have hq := hp
    refine wp_drawnG_hp hp hq [] (.q 0 (.q 1 (.q 3 (.q 4 (.p 2 (.p 5 (.q 6 (.q 7 (.q 8 (.q 9 (.q 10 (.q 11 (.p 12 (.q 13 (.q 14 (.q 15 (.q 16 (.q 17 (.q 18 (.p 19 (.q 20 (.q 21 (.q 22 (.q 23 (.q 24 (.q 25 (.p 26 (.q 27 (.q 28 (.q 29 (.q 30 (.q 32 (.p 31 (.q 33 (.q 34 (.q 35 (.p 36 (.q 37 (.q 38 .nil))))))))))))))))))))))))))))))))))))))) (by kernel_rfl) (by kernel_rfl) ?_
    clear hp hq; (try clear w1); intro w1 hp hq
    repeat' (first
      | (((with_reducible apply sg_q); exact zo rfl); (first
          | ((with_reducible apply sg_load_agg hp); exact rfl; exact zt rfl; infer_instance; infer_instance; (first | exact zl rfl | exact LB_le (by omega)); (first | (with_reducible exact LB_set (by omega)) | (simp only [n0, Nat.reduceAdd, n1, n2, n3, n4, n5, n6, n7, n8, n9]; try rfl)); simp only [zp, zq, z0, z1])
          | ((with_reducible apply sg_load_one hp); exact rfl; exact zt rfl; infer_instance; infer_instance; (first | exact zio rfl | exact LB_get (by omega)); simp only [zp, zq, z0, z1])
          | ((with_reducible apply sg_move hp); exact zb rfl; simp only [zp, zq, z0, z1])
          | ((with_reducible apply sg_assign hp); exact zb rfl; simp only [zp, zq, z0, z1])
          | ((with_reducible apply sg_pure hp); exact rfl; (focus (intro _; go_simp; (try go_ints); try with_reducible rfl)); simp only [zp, zq, z0, z1])
          | ((with_reducible apply sg_skip hp); exact rfl; simp only [zp, zq, z0, z1])))
      | (((with_reducible apply sg_p); exact zo rfl); (first
          | ((with_reducible apply sg_call hp); exact rfl; (focus (intro _; go_simp; try first | with_reducible rfl | exact ⟨rfl, rfl⟩)); (with_reducible first | exact fun w => C3.out w | exact fun w => D1.out w | exact fun w => D2.out w | exact fun w => O1.out w | exact fun w => O2.out w | exact fun w => O3.out w | exact fun w => awake3 w); simp only [zp, zq, z0, z1])
          | ((with_reducible apply sg_skipP hp); exact rfl; simp only [zp, zq, z0, z1])))
      | ((with_reducible apply sg_nil hq); clear hp hq; (try clear w1); intro w1 hp))
    go_wp2
    exact bodyPost_ret (results_one rfl rfl) rfl ⟨rfl, hp.keep⟩
theorem turned_law (a : P3) (ha : a.i64) (b : P3) (hb : b.i64) (w : World) : Calls Try.prog 6 #[PV a, PV b] w (Ret (.bool true) w) := by
  have d2 := vDot_any b a hb ha
  rw [show b.dot a = a.dot b by unfold P3.dot; grind] at d2
  have c3 := vcross_any a a ha ha
  rw [show a.ccross a = ⟨0, 0, 0⟩ by
    unfold P3.ccross
    rw [show a.y * a.z - a.z * a.y = 0 by grind, show a.z * a.x - a.x * a.z = 0 by grind, show a.x * a.y - a.y * a.x = 0 by grind]
    rfl] at c3
  refine turned_core a b _ _ _ (Lib.hid (vcross_any a b ha hb)) (Lib.hid (vcross_any b a hb ha)) (Lib.hid c3) (Lib.hid (vDot_any a b ha hb)) (Lib.hid d2) (Lib.hid fun w => ?_) (Lib.hid fun w => ?_) (Lib.hid fun w => ?_) w
  · have := opposite_any (a.y * b.z - a.z * b.y) w
    rwa [show -(a.y * b.z - a.z * b.y) = b.y * a.z - b.z * a.y by grind] at this
  · have := opposite_any (a.z * b.x - a.x * b.z) w
    rwa [show -(a.z * b.x - a.x * b.z) = b.z * a.x - b.x * a.z by grind] at this
  · have := opposite_any (a.x * b.y - a.y * b.x) w
    rwa [show -(a.x * b.y - a.y * b.x) = b.x * a.y - b.y * a.x by grind] at this
/-! ### The triangle -/
theorem le_rtUp {n k : Int} (h : 0 ≤ n) (hk : 0 ≤ k) : rtUp n ≤ k ↔ n ≤ k * k := by
  obtain ⟨h1, h2⟩ := rt_spec h
  have h0 := rt_nonneg n
  unfold rtUp
  split
  · rename_i he
    constructor
    · intro h3
      have := sq_mono h0 h3
      omega
    · intro h3
      by_cases h4 : rt n ≤ k
      · exact h4
      · have := sq_mono (a := k + 1) (b := rt n) (by omega) (by omega)
        have e : (k + 1) * (k + 1) = k * k + 2 * k + 1 := by grind
        omega
  · rename_i he
    constructor
    · intro h3
      have := sq_mono (a := rt n + 1) (b := k) (by omega) h3
      omega
    · intro h3
      by_cases h4 : rt n + 1 ≤ k
      · exact h4
      · have := sq_mono (a := k) (b := rt n) (by omega) (by omega)
        omega
theorem cl_sq (n : Int) : cl n * cl n ≤ n * n := by
  unfold cl
  split
  · have := sq_mono (a := 9223372036854775808) (b := -n) (by omega) (by omega)
    rw [Int.neg_mul_neg] at this
    omega
  · split
    · have := sq_mono (a := 9223372036854775807) (b := n) (by omega) (by omega)
      omega
    · omega
theorem cauchy (a b : P3) : a.dot b * a.dot b ≤ a.dot a * b.dot b := by
  have e : a.dot a * b.dot b - a.dot b * a.dot b = (a.x * b.y - a.y * b.x) * (a.x * b.y - a.y * b.x) + (a.y * b.z - a.z * b.y) * (a.y * b.z - a.z * b.y) + (a.z * b.x - a.x * b.z) * (a.z * b.x - a.x * b.z) := by
    unfold P3.dot
    grind
  have h1 := sq_nn (a.x * b.y - a.y * b.x)
  have h2 := sq_nn (a.y * b.z - a.z * b.y)
  have h3 := sq_nn (a.z * b.x - a.x * b.z)
  omega
theorem abs_le_of_sq {x y : Int} (hy : 0 ≤ y) (h : x * x ≤ y * y) : x ≤ y := by
  by_cases h1 : x ≤ y
  · exact h1
  · have := sq_mono (a := y + 1) (b := x) (by omega) (by omega)
    have e : (y + 1) * (y + 1) = y * y + 2 * y + 1 := by grind
    omega
theorem triangle (a b : P3) : rtUp ((a.cadd b).dot (a.cadd b)) ≤ rtUp (a.dot a) + rtUp (b.dot b) := by
  have hA := dot_self a
  have hB := dot_self b
  have u0 := rtUp_nonneg (a.dot a)
  have v0 := rtUp_nonneg (b.dot b)
  have hu := (le_rtUp hA u0).1 (Int.le_refl _)
  have hv := (le_rtUp hB v0).1 (Int.le_refl _)
  refine (le_rtUp (dot_self _) (by omega)).2 ?_
  have hc := cauchy a b
  generalize rtUp (a.dot a) = u at *
  generalize rtUp (b.dot b) = v at *
  have h1 : a.dot b * a.dot b ≤ (u * v) * (u * v) := by
    have h2 := Int.mul_le_mul hu hv hB (Int.mul_nonneg u0 u0)
    rw [show (u * v) * (u * v) = u * u * (v * v) by grind]
    omega
  have h3 := abs_le_of_sq (Int.mul_nonneg u0 v0) h1
  have h4 : (a.cadd b).dot (a.cadd b) ≤ a.dot a + b.dot b + 2 * a.dot b := by
    have e : a.dot a + b.dot b + 2 * a.dot b = (a.x + b.x) * (a.x + b.x) + (a.y + b.y) * (a.y + b.y) + (a.z + b.z) * (a.z + b.z) := by
      unfold P3.dot
      grind
    rw [e]
    have k1 := cl_sq (a.x + b.x)
    have k2 := cl_sq (a.y + b.y)
    have k3 := cl_sq (a.z + b.z)
    simp only [P3.dot, P3.cadd]
    omega
  rw [show (u + v) * (u + v) = u * u + v * v + 2 * (u * v) by grind]
  omega
set_option maxHeartbeats 4000000 in
theorem triangle_core (a b s : P3) (n u v t l : Int) (h1 : n ≤ t) (h2 : l ≤ u) (A1 : Hid (∀ w, Calls Try.prog 37 #[PV a, PV b] w (Ret (PV s) w)))
    (L1 : Hid (∀ w, Calls Try.prog 32 #[PV s] w (Ret (.int .i64 n) w))) (L2 : Hid (∀ w, Calls Try.prog 32 #[PV a] w (Ret (.int .i64 u) w)))
    (L3 : Hid (∀ w, Calls Try.prog 32 #[PV b] w (Ret (.int .i64 v) w))) (F1 : Hid (∀ w, Calls Try.prog 38 #[.int .i64 u, .int .i64 v] w (Ret (.int .i64 t) w)))
    (L4 : Hid (∀ w, Calls Try.prog 30 #[PV a] w (Ret (.int .i64 l) w))) (w : World) : Calls Try.prog 11 #[PV a, PV b] w (Ret (.bool true) w) := by
  obtain ⟨ax, ay, az⟩ := a
  obtain ⟨bx, by', bz⟩ := b
  obtain ⟨sx, sy, sz⟩ := s
  go_enter Try.func11, Try.ntmps11
  have hp := Hp.start [] w
  go_upto_region 1 with (first
          | ((with_reducible apply sx_box hp); (first | exact za rfl | exact zu rfl | exact zi rfl | exact zb rfl | exact zr rfl | exact zs rfl | exact zf rfl | exact zg rfl | exact zn rfl | exact zv rfl | exact zw rfl); exact rfl; clear hp; (try clear w1); intro g w1 hp; simp only [zp, zq, z0, z1])
          | ((with_reducible apply sx_alloc hp); infer_instance; exact rfl; clear hp; (try clear w1); intro g w1 hp; simp only [zp, zq, z0, z1]))
  have hq := hp
  refine wp_drawnG_hp hp hq [] (.q 0 (.q 1 (.q 4 (.q 6 (.p 2 (.p 3 (.p 5 (.p 7 (.p 8 (.q 9 (.q 10 (.q 11 (.q 13 (.p 12 (.p 14 (.q 15 (.q 16 (.q 17 (.p 18 (.q 19 (.q 20 .nil))))))))))))))))))))) (by kernel_rfl) (by kernel_rfl) ?_
  clear hp hq; (try clear w1); intro w1 hp hq
  repeat' (first
    | (((with_reducible apply sg_q); exact zo rfl); (first
        | ((with_reducible apply sg_load_agg hp); exact rfl; exact zt rfl; infer_instance; infer_instance; (first | exact zl rfl | exact LB_le (by omega)); (first | (with_reducible exact LB_set (by omega)) | (simp only [n0, Nat.reduceAdd, n1, n2, n3, n4, n5, n6, n7, n8, n9]; try rfl)); simp only [zp, zq, z0, z1])
        | ((with_reducible apply sg_move hp); exact zb rfl; simp only [zp, zq, z0, z1])
        | ((with_reducible apply sg_assign hp); exact zb rfl; simp only [zp, zq, z0, z1])
        | ((with_reducible apply sg_pure hp); exact rfl; (focus (intro _; go_simp; (try go_ints); try with_reducible rfl)); simp only [zp, zq, z0, z1])
        | ((with_reducible apply sg_skip hp); exact rfl; simp only [zp, zq, z0, z1])))
    | (((with_reducible apply sg_p); exact zo rfl); (first
        | ((with_reducible apply sg_call hp); exact rfl; (focus (intro _; go_simp; try first | with_reducible rfl | exact ⟨rfl, rfl⟩)); (with_reducible first | exact fun w => A1.out w | exact fun w => L1.out w | exact fun w => L2.out w | exact fun w => L3.out w | exact fun w => L4.out w | exact fun w => F1.out w | exact fun w => awake3 w); simp only [zp, zq, z0, z1])
        | ((with_reducible apply sg_skipP hp); exact rfl; simp only [zp, zq, z0, z1])))
    | ((with_reducible apply sg_nil hq); clear hp hq; (try clear w1); intro w1 hp))
  go_wp2
  exact bodyPost_ret (results_one rfl rfl) rfl ⟨rfl, hp.keep⟩
theorem cadd_i64 (a b : P3) : (a.cadd b).i64 := ⟨cl_i64 _, cl_i64 _, cl_i64 _⟩
theorem csub_i64 (a b : P3) : (a.csub b).i64 := ⟨cl_i64 _, cl_i64 _, cl_i64 _⟩
theorem cl_mono {m n : Int} (h : m ≤ n) : cl m ≤ cl n := by
  unfold cl
  split <;> (try split) <;> (try split) <;> omega
theorem rt_le_up (n : Int) : rt n ≤ rtUp n := by unfold rtUp; split <;> omega
theorem triangle_law (a : P3) (ha : a.i64) (b : P3) (hb : b.i64) (w : World) : Calls Try.prog 11 #[PV a, PV b] w (Ret (.bool true) w) := by
  have ht := triangle a b
  have u0 := rtUp_nonneg (a.dot a)
  have v0 := rtUp_nonneg (b.dot b)
  refine triangle_core a b (a.cadd b) (lenv (a.cadd b) true) (lenv a true) (lenv b true) (cl (lenv a true + lenv b true)) (lenv a false) ?_ ?_ (Lib.hid (vadd_any a b ha hb)) (Lib.hid (vlenup_any _ (cadd_i64 a b))) (Lib.hid (vlenup_any a ha)) (Lib.hid (vlenup_any b hb)) (Lib.hid (fadd_any _ _ (cl_i64 _) (cl_i64 _))) (Lib.hid (vlen_any a ha)) w
  · unfold lenv
    simp only [if_true]
    generalize rtUp ((a.cadd b).dot (a.cadd b)) = n at *
    generalize rtUp (a.dot a) = u at *
    generalize rtUp (b.dot b) = v at *
    unfold cl
    split <;> (try split) <;> (try split) <;> (try split) <;> (try split) <;> (try split) <;> omega
  · unfold lenv
    simp only [if_true, Bool.false_eq_true, if_false]
    exact cl_mono (rt_le_up _)
end Go.Proofs.Ytnipjafcgicddaa
set_option linter.unusedSimpArgs false
set_option linter.unusedVariables false
set_option maxRecDepth 100000
namespace Go.Proofs.Ytnipjafcgicddaa
open Go Go.RowKit
attribute [local irreducible] wpList

set_option maxHeartbeats 4000000 in
theorem lsquare_core (x y z p q r pq s : Int) (WX : Hid (∀ w, Calls Try.prog 25 #[.int .i64 x] w (Ret (W x) w))) (WY : Hid (∀ w, Calls Try.prog 25 #[.int .i64 y] w (Ret (W y) w))) (WZ : Hid (∀ w, Calls Try.prog 25 #[.int .i64 z] w (Ret (W z) w)))
    (MX : Hid (∀ w, Calls Try.prog 61 #[W x, W x] w (Ret (.tuple #[W p, .bool true]) w))) (MY : Hid (∀ w, Calls Try.prog 61 #[W y, W y] w (Ret (.tuple #[W q, .bool true]) w))) (MZ : Hid (∀ w, Calls Try.prog 61 #[W z, W z] w (Ret (.tuple #[W r, .bool true]) w)))
    (P1 : Hid (∀ w, Calls Try.prog 27 #[W p, W q] w (Ret (.tuple #[W pq, .bool true]) w))) (P2 : Hid (∀ w, Calls Try.prog 27 #[W pq, W r] w (Ret (.tuple #[W s, .bool true]) w))) (w : World) :
    Calls Try.prog 23 #[.agg #[.int .i64 x, .int .i64 y, .int .i64 z]] w (Ret (W s) w) := by
  go_enter Try.func23, Try.ntmps23
  have hp := Hp.start [] w
  go_upto_region 1 with (first
          | ((with_reducible apply sx_box hp); (first | exact za rfl | exact zu rfl | exact zi rfl | exact zb rfl | exact zr rfl | exact zs rfl | exact zf rfl | exact zg rfl | exact zn rfl | exact zv rfl | exact zw rfl); exact rfl; clear hp; (try clear w1); intro g w1 hp; simp only [zp, zq, z0, z1])
          | ((with_reducible apply sx_alloc hp); infer_instance; exact rfl; clear hp; (try clear w1); intro g w1 hp; simp only [zp, zq, z0, z1]))
  have hq := hp
  refine wp_drawnG_hp hp hq [] (.q 0 (.q 1 (.q 3 (.q 4 (.p 2 (.p 5 (.p 6 (.q 7 (.q 8 (.q 9 (.l 10 (.l 11 (.q 12 .nil))))))))))))) (by kernel_rfl) (by kernel_rfl) ?_
  clear hp hq; (try clear w1); intro w1 hp hq
  repeat' (first
    | (((with_reducible apply sg_q); exact zo rfl); (first
        | ((with_reducible apply sg_load_one hp); exact rfl; exact zt rfl; infer_instance; infer_instance; (first | exact zio rfl | exact LB_get (by omega)); simp only [zp, zq, z0, z1])
        | ((with_reducible apply sg_move hp); exact zu rfl; simp only [zp, zq, z0, z1])
        | ((with_reducible apply sg_assign hp); exact zb rfl; simp only [zp, zq, z0, z1])
        | ((with_reducible apply sg_pure hp); exact rfl; (focus (intro _; go_simp; (try go_ints); try with_reducible rfl)); simp only [zp, zq, z0, z1])))
    | (((with_reducible apply sg_p); exact zo rfl); ((with_reducible apply sg_call hp); exact rfl; (focus (intro _; go_simp; try first | with_reducible rfl | exact ⟨rfl, rfl⟩)); (with_reducible first | exact fun w => WX.out w | exact fun w => MX.out w); simp only [zp, zq, z0, z1]))
    | (((with_reducible apply sg_l); exact zo rfl); (first
        | ((with_reducible apply sg_alloc hq); (repeat (first | exact List.Sublist.refl _ | exact List.nil_sublist _ | apply List.Sublist.cons_cons | apply List.Sublist.cons)); exact rfl; infer_instance; exact rfl; clear hp hq; (try clear w1); intro g w1 hp hq; simp only [zp, zq, z0, z1])
        | ((with_reducible apply sg_store_far hq); exact rfl; exact zt rfl; (first | exact za rfl | exact zu rfl | exact zi rfl | exact zb rfl | exact zr rfl | exact zs rfl | exact zf rfl | exact zg rfl | exact zn rfl | exact zv rfl | exact zw rfl); exact rfl; (first | exact AggTy.size | exact OneTy.size); exact rfl; infer_instance; (first | (with_reducible exact LB_set (by omega)) | (simp only [n0, Nat.reduceAdd, n1, n2, n3, n4, n5, n6, n7, n8, n9]; try rfl)); (first | exact zl rfl | exact LB_le (by omega)); exact rfl; infer_instance; (repeat (first | exact List.Sublist.refl _ | exact List.nil_sublist _ | apply List.Sublist.cons_cons | apply List.Sublist.cons)); clear hp hq; (try clear w1); intro w1 hp hq)))
    | ((with_reducible apply sg_nil hq); clear hp hq; (try clear w1); intro w1 hp))
  go_upto_region 2 with fail
  have hq := hp
  refine wp_drawnG_hp hp hq [] (.q 0 (.q 1 (.q 3 (.q 4 (.p 2 (.p 5 (.p 6 (.q 7 (.q 8 (.q 9 (.l 10 (.l 11 (.q 12 .nil))))))))))))) (by kernel_rfl) (by kernel_rfl) ?_
  clear hp hq; (try clear w1); intro w1 hp hq
  repeat' (first
    | (((with_reducible apply sg_q); exact zo rfl); (first
        | ((with_reducible apply sg_load_one hp); exact rfl; exact zt rfl; infer_instance; infer_instance; (first | exact zio rfl | exact LB_get (by omega)); simp only [zp, zq, z0, z1])
        | ((with_reducible apply sg_move hp); exact zu rfl; simp only [zp, zq, z0, z1])
        | ((with_reducible apply sg_assign hp); exact zb rfl; simp only [zp, zq, z0, z1])
        | ((with_reducible apply sg_pure hp); exact rfl; (focus (intro _; go_simp; (try go_ints); try with_reducible rfl)); simp only [zp, zq, z0, z1])))
    | (((with_reducible apply sg_p); exact zo rfl); ((with_reducible apply sg_call hp); exact rfl; (focus (intro _; go_simp; try first | with_reducible rfl | exact ⟨rfl, rfl⟩)); (with_reducible first | exact fun w => WY.out w | exact fun w => MY.out w); simp only [zp, zq, z0, z1]))
    | (((with_reducible apply sg_l); exact zo rfl); (first
        | ((with_reducible apply sg_alloc hq); (repeat (first | exact List.Sublist.refl _ | exact List.nil_sublist _ | apply List.Sublist.cons_cons | apply List.Sublist.cons)); exact rfl; infer_instance; exact rfl; clear hp hq; (try clear w1); intro g w1 hp hq; simp only [zp, zq, z0, z1])
        | ((with_reducible apply sg_store_far hq); exact rfl; exact zt rfl; (first | exact za rfl | exact zu rfl | exact zi rfl | exact zb rfl | exact zr rfl | exact zs rfl | exact zf rfl | exact zg rfl | exact zn rfl | exact zv rfl | exact zw rfl); exact rfl; (first | exact AggTy.size | exact OneTy.size); exact rfl; infer_instance; (first | (with_reducible exact LB_set (by omega)) | (simp only [n0, Nat.reduceAdd, n1, n2, n3, n4, n5, n6, n7, n8, n9]; try rfl)); (first | exact zl rfl | exact LB_le (by omega)); exact rfl; infer_instance; (repeat (first | exact List.Sublist.refl _ | exact List.nil_sublist _ | apply List.Sublist.cons_cons | apply List.Sublist.cons)); clear hp hq; (try clear w1); intro w1 hp hq)))
    | ((with_reducible apply sg_nil hq); clear hp hq; (try clear w1); intro w1 hp))
  go_upto_region 3 with fail
  have hq := hp
  refine wp_drawnG_hp hp hq [] (.q 0 (.q 1 (.q 3 (.q 4 (.p 2 (.p 5 (.p 6 (.q 7 (.q 8 (.q 9 (.l 10 (.l 11 (.q 12 .nil))))))))))))) (by kernel_rfl) (by kernel_rfl) ?_
  clear hp hq; (try clear w1); intro w1 hp hq
  repeat' (first
    | (((with_reducible apply sg_q); exact zo rfl); (first
        | ((with_reducible apply sg_load_one hp); exact rfl; exact zt rfl; infer_instance; infer_instance; (first | exact zio rfl | exact LB_get (by omega)); simp only [zp, zq, z0, z1])
        | ((with_reducible apply sg_move hp); exact zu rfl; simp only [zp, zq, z0, z1])
        | ((with_reducible apply sg_assign hp); exact zb rfl; simp only [zp, zq, z0, z1])
        | ((with_reducible apply sg_pure hp); exact rfl; (focus (intro _; go_simp; (try go_ints); try with_reducible rfl)); simp only [zp, zq, z0, z1])))
    | (((with_reducible apply sg_p); exact zo rfl); ((with_reducible apply sg_call hp); exact rfl; (focus (intro _; go_simp; try first | with_reducible rfl | exact ⟨rfl, rfl⟩)); (with_reducible first | exact fun w => WZ.out w | exact fun w => MZ.out w); simp only [zp, zq, z0, z1]))
    | (((with_reducible apply sg_l); exact zo rfl); (first
        | ((with_reducible apply sg_alloc hq); (repeat (first | exact List.Sublist.refl _ | exact List.nil_sublist _ | apply List.Sublist.cons_cons | apply List.Sublist.cons)); exact rfl; infer_instance; exact rfl; clear hp hq; (try clear w1); intro g w1 hp hq; simp only [zp, zq, z0, z1])
        | ((with_reducible apply sg_store_far hq); exact rfl; exact zt rfl; (first | exact za rfl | exact zu rfl | exact zi rfl | exact zb rfl | exact zr rfl | exact zs rfl | exact zf rfl | exact zg rfl | exact zn rfl | exact zv rfl | exact zw rfl); exact rfl; (first | exact AggTy.size | exact OneTy.size); exact rfl; infer_instance; (first | (with_reducible exact LB_set (by omega)) | (simp only [n0, Nat.reduceAdd, n1, n2, n3, n4, n5, n6, n7, n8, n9]; try rfl)); (first | exact zl rfl | exact LB_le (by omega)); exact rfl; infer_instance; (repeat (first | exact List.Sublist.refl _ | exact List.nil_sublist _ | apply List.Sublist.cons_cons | apply List.Sublist.cons)); clear hp hq; (try clear w1); intro w1 hp hq)))
    | ((with_reducible apply sg_nil hq); clear hp hq; (try clear w1); intro w1 hp))
  go_wp2_with (first
          | ((with_reducible apply sx_box hp); exact za rfl; exact rfl; clear hp; (try clear w1); intro g w1 hp; simp only [zp, zq, z0, z1])
          | ((with_reducible apply sx_alloc hp); infer_instance; exact rfl; clear hp; (try clear w1); intro g w1 hp; simp only [zp, zq, z0, z1])
          | ((with_reducible apply sx_load_agg hp); exact zt rfl; infer_instance; infer_instance; (first | exact zl rfl | exact LB_le (by omega)); (first | (with_reducible exact LB_set (by omega)) | (simp only [n0, Nat.reduceAdd, n1, n2, n3, n4, n5, n6, n7, n8, n9]; try rfl)); simp only [zp, zq, z0, z1])
          | ((with_reducible apply sx_load_one hp); exact zt rfl; infer_instance; infer_instance; (first | exact zio rfl | exact LB_get (by omega)); simp only [zp, zq, z0, z1])
          | ((with_reducible apply sx_store hp); exact zt rfl; exact za rfl; exact rfl; (first | exact AggTy.size | exact OneTy.size); exact rfl; infer_instance; (first | (with_reducible exact LB_set (by omega)) | (simp only [n0, Nat.reduceAdd, n1, n2, n3, n4, n5, n6, n7, n8, n9]; try rfl)); (first | exact zl rfl | exact LB_le (by omega)); exact rfl; infer_instance; clear hp; (try clear w1); intro w1 hp)
          | ((with_reducible first | refine sx_call hp (P1.out _) ?_ | refine sx_call hp (P2.out _) ?_); clear hp; (try clear w1); intro w1 hp))
  exact bodyPost_ret (results_one rfl ⟨_, rfl, run_load_agg hp (Nat.le_of_ble_eq_true rfl)⟩) rfl ⟨rfl, hp.keep⟩
theorem lsquare_any (a : P3) (ha : a.i64) (w : World) : Calls Try.prog 23 #[PV a] w (Ret (W (a.dot a)) w) := by
  have h1 := sq_i64 ha.1
  have h2 := sq_i64 ha.2.1
  have h3 := sq_i64 ha.2.2
  have mul : ∀ x, I64 x → ∀ w, Calls Try.prog 61 #[W x, W x] w (Ret (.tuple #[W (x * x), .bool true]) w) := fun x hx w => by
    have hf : Fit (x * x) := prod_i64 hx hx
    have := mul_any x x (fit_i64 hx) (fit_i64 hx) w
    rwa [show fz (x * x) = x * x from if_pos hf, decide_eq_true hf] at this
  have add : ∀ x y : Int, Fit x → Fit y → Fit (x + y) → ∀ w, Calls Try.prog 27 #[W x, W y] w (Ret (.tuple #[W (x + y), .bool true]) w) := fun x y hx hy hf w => by
    have := add_any x y hx hy w
    rwa [show fz (x + y) = x + y from if_pos hf, decide_eq_true hf] at this
  exact lsquare_core a.x a.y a.z (a.x * a.x) (a.y * a.y) (a.z * a.z) (a.x * a.x + a.y * a.y) (a.dot a) (Lib.hid (of_i64 _ ha.1)) (Lib.hid (of_i64 _ ha.2.1)) (Lib.hid (of_i64 _ ha.2.2)) (Lib.hid (mul _ ha.1)) (Lib.hid (mul _ ha.2.1)) (Lib.hid (mul _ ha.2.2))
    (Lib.hid (add _ _ (by unfold Fit M511; omega) (by unfold Fit M511; omega) (by unfold Fit M511; omega))) (Lib.hid (add _ _ (by unfold Fit M511; omega) (by unfold Fit M511; omega) (by unfold Fit M511; omega))) w
/-! ### VecLength -/
set_option maxHeartbeats 4000000 in
theorem length_max (a : P3) (l : Int) (h : l ≤ 9223372036854775807) (L1 : Hid (∀ w, Calls Try.prog 30 #[PV a] w (Ret (.int .i64 l) w))) (L2 : Hid (∀ w, Calls Try.prog 32 #[PV a] w (Ret (.int .i64 9223372036854775807) w))) (w : World) :
    Calls Try.prog 9 #[PV a] w (Ret (.bool true) w) := by
  obtain ⟨ax, ay, az⟩ := a
  go_enter Try.func9, Try.ntmps9
  have hp := Hp.start [] w
  go_upto_region 1 with (first
          | ((with_reducible apply sx_box hp); (first | exact za rfl | exact zu rfl | exact zi rfl | exact zb rfl | exact zr rfl | exact zs rfl | exact zf rfl | exact zg rfl | exact zn rfl | exact zv rfl | exact zw rfl); exact rfl; clear hp; (try clear w1); intro g w1 hp; simp only [zp, zq, z0, z1])
          | ((with_reducible apply sx_alloc hp); infer_instance; exact rfl; clear hp; (try clear w1); intro g w1 hp; simp only [zp, zq, z0, z1]))
  have hq := hp
  refine wp_drawnG_hp hp hq [] (.q 0 (.q 2 (.p 1 (.p 3 (.q 4 (.q 5 .nil)))))) (by kernel_rfl) (by kernel_rfl) ?_
  clear hp hq; (try clear w1); intro w1 hp hq
  repeat' (first
    | (((with_reducible apply sg_q); exact zo rfl); (first
        | ((with_reducible apply sg_load_agg hp); exact rfl; exact zt rfl; infer_instance; infer_instance; (first | exact zl rfl | exact LB_le (by omega)); (first | (with_reducible exact LB_set (by omega)) | (simp only [n0, Nat.reduceAdd, n1, n2, n3, n4, n5, n6, n7, n8, n9]; try rfl)); simp only [zp, zq, z0, z1])
        | ((with_reducible apply sg_assign hp); exact zi rfl; simp only [zp, zq, z0, z1])
        | ((with_reducible apply sg_pure hp); exact rfl; (focus (intro _; go_simp; (try go_ints); try with_reducible rfl)); simp only [zp, zq, z0, z1])))
    | (((with_reducible apply sg_p); exact zo rfl); ((with_reducible apply sg_call hp); exact rfl; (focus (intro _; go_simp; try first | with_reducible rfl | exact ⟨rfl, rfl⟩)); (with_reducible first | exact fun w => L1.out w | exact fun w => L2.out w); simp only [zp, zq, z0, z1]))
    | ((with_reducible apply sg_nil hq); clear hp hq; (try clear w1); intro w1 hp))
  go_wp2_with (first
          | ((with_reducible apply sx_guard); (conv => whnf); refine Bx.mk ?_; (try simp only [zp, zq, z0, z1]))
          | ((with_reducible apply sx_box hp); exact za rfl; exact rfl; clear hp; (try clear w1); intro g w1 hp; simp only [zp, zq, z0, z1])
          | ((with_reducible apply sx_alloc hp); infer_instance; exact rfl; clear hp; (try clear w1); intro g w1 hp; simp only [zp, zq, z0, z1])
          | ((with_reducible apply sx_load_agg hp); exact zt rfl; infer_instance; infer_instance; (first | exact zl rfl | exact LB_le (by omega)); (first | (with_reducible exact LB_set (by omega)) | (simp only [n0, Nat.reduceAdd, n1, n2, n3, n4, n5, n6, n7, n8, n9]; try rfl)); simp only [zp, zq, z0, z1])
          | ((with_reducible apply sx_store hp); exact zt rfl; exact za rfl; exact rfl; (first | exact AggTy.size | exact OneTy.size); exact rfl; infer_instance; (first | (with_reducible exact LB_set (by omega)) | (simp only [n0, Nat.reduceAdd, n1, n2, n3, n4, n5, n6, n7, n8, n9]; try rfl)); (first | exact zl rfl | exact LB_le (by omega)); exact rfl; infer_instance; clear hp; (try clear w1); intro w1 hp)
          | ((with_reducible refine sx_call hp (awake3 _) ?_); clear hp; (try clear w1); intro w1 hp))
  exact bodyPost_ret (results_one rfl rfl) rfl ⟨rfl, hp.keep⟩
set_option maxHeartbeats 4000000 in
theorem length_core (a : P3) (l up s p q c1 c2 : Int) (hl0 : 0 ≤ l) (hl1 : l + 1 < 9223372036854775808) (hu : (up == 9223372036854775807) = false) (h1 : c1 ≤ 0) (h2 : c2 < 0) (b : Bool) (hb : (up == l) = b) (HE : eqb p s = b) (hup : l ≤ up) (hup1 : up - l ≤ 1)
    (L1 : Hid (∀ w, Calls Try.prog 30 #[PV a] w (Ret (.int .i64 l) w))) (L2 : Hid (∀ w, Calls Try.prog 32 #[PV a] w (Ret (.int .i64 up) w)))
    (S1 : Hid (∀ w, Calls Try.prog 23 #[PV a] w (Ret (W s) w))) (S2 : Hid (∀ w, Calls Try.prog 23 #[.agg #[.int .i64 l, .int .i64 0, .int .i64 0]] w (Ret (W p) w))) (S3 : Hid (∀ w, Calls Try.prog 23 #[.agg #[.int .i64 (l + 1), .int .i64 0, .int .i64 0]] w (Ret (W q) w)))
    (K1 : Hid (∀ w, Calls Try.prog 28 #[W p, W s] w (Ret (.int .i64 c1) w))) (K2 : Hid (∀ w, Calls Try.prog 28 #[W s, W q] w (Ret (.int .i64 c2) w))) (w : World) :
    Calls Try.prog 9 #[PV a] w (Ret (.bool true) w) := by
  obtain ⟨ax, ay, az⟩ := a
  unfold eqb at HE
  have hu0 : 0 ≤ up - l := by omega
  go_enter Try.func9, Try.ntmps9
  have hp := Hp.start [] w
  go_upto_region 1 with (first
          | ((with_reducible apply sx_box hp); (first | exact za rfl | exact zu rfl | exact zi rfl | exact zb rfl | exact zr rfl | exact zs rfl | exact zf rfl | exact zg rfl | exact zn rfl | exact zv rfl | exact zw rfl); exact rfl; clear hp; (try clear w1); intro g w1 hp; simp only [zp, zq, z0, z1])
          | ((with_reducible apply sx_alloc hp); infer_instance; exact rfl; clear hp; (try clear w1); intro g w1 hp; simp only [zp, zq, z0, z1]))
  have hq := hp
  refine wp_drawnG_hp hp hq [] (.q 0 (.q 2 (.p 1 (.p 3 (.q 4 (.q 5 .nil)))))) (by kernel_rfl) (by kernel_rfl) ?_
  clear hp hq; (try clear w1); intro w1 hp hq
  repeat' (first
    | (((with_reducible apply sg_q); exact zo rfl); (first
        | ((with_reducible apply sg_load_agg hp); exact rfl; exact zt rfl; infer_instance; infer_instance; (first | exact zl rfl | exact LB_le (by omega)); (first | (with_reducible exact LB_set (by omega)) | (simp only [n0, Nat.reduceAdd, n1, n2, n3, n4, n5, n6, n7, n8, n9]; try rfl)); simp only [zp, zq, z0, z1])
        | ((with_reducible apply sg_assign hp); exact zi rfl; simp only [zp, zq, z0, z1])
        | ((with_reducible apply sg_pure hp); exact rfl; (focus (intro _; go_simp; (try go_ints); try with_reducible rfl)); simp only [zp, zq, z0, z1])))
    | (((with_reducible apply sg_p); exact zo rfl); ((with_reducible apply sg_call hp); exact rfl; (focus (intro _; go_simp; try first | with_reducible rfl | exact ⟨rfl, rfl⟩)); (with_reducible first | exact fun w => L1.out w | exact fun w => L2.out w); simp only [zp, zq, z0, z1]))
    | ((with_reducible apply sg_nil hq); clear hp hq; (try clear w1); intro w1 hp))
  go_upto_region 5 with (first
          | ((with_reducible apply sx_guard); (conv => whnf); refine Bx.mk ?_; (try simp only [zp, zq, z0, z1]))
          | ((with_reducible apply sx_box hp); exact za rfl; exact rfl; clear hp; (try clear w1); intro g w1 hp; simp only [zp, zq, z0, z1])
          | ((with_reducible apply sx_alloc hp); infer_instance; exact rfl; clear hp; (try clear w1); intro g w1 hp; simp only [zp, zq, z0, z1])
          | ((with_reducible apply sx_load_agg hp); exact zt rfl; infer_instance; infer_instance; (first | exact zl rfl | exact LB_le (by omega)); (first | (with_reducible exact LB_set (by omega)) | (simp only [n0, Nat.reduceAdd, n1, n2, n3, n4, n5, n6, n7, n8, n9]; try rfl)); simp only [zp, zq, z0, z1])
          | ((with_reducible apply sx_store hp); exact zt rfl; exact za rfl; exact rfl; (first | exact AggTy.size | exact OneTy.size); exact rfl; infer_instance; (first | (with_reducible exact LB_set (by omega)) | (simp only [n0, Nat.reduceAdd, n1, n2, n3, n4, n5, n6, n7, n8, n9]; try rfl)); (first | exact zl rfl | exact LB_le (by omega)); exact rfl; infer_instance; clear hp; (try clear w1); intro w1 hp)
          | ((with_reducible first | refine sx_call hp (S1.out _) ?_ | refine sx_call hp (S2.out _) ?_ | refine sx_call hp (S3.out _) ?_); clear hp; (try clear w1); intro w1 hp))
  clear L1 L2 S1 S2 S3
  cases b
  · skip
    go_wp2_with (first
          | ((with_reducible apply sx_guard); (conv => whnf); refine Bx.mk ?_; (try simp only [zp, zq, z0, z1]))
          | ((with_reducible apply sx_box hp); exact za rfl; exact rfl; clear hp; (try clear w1); intro g w1 hp; simp only [zp, zq, z0, z1])
          | ((with_reducible apply sx_alloc hp); infer_instance; exact rfl; clear hp; (try clear w1); intro g w1 hp; simp only [zp, zq, z0, z1])
          | ((with_reducible apply sx_load_agg hp); exact zt rfl; infer_instance; infer_instance; (first | exact zl rfl | exact LB_le (by omega)); (first | (with_reducible exact LB_set (by omega)) | (simp only [n0, Nat.reduceAdd, n1, n2, n3, n4, n5, n6, n7, n8, n9]; try rfl)); simp only [zp, zq, z0, z1])
          | ((with_reducible apply sx_store hp); exact zt rfl; exact za rfl; exact rfl; (first | exact AggTy.size | exact OneTy.size); exact rfl; infer_instance; (first | (with_reducible exact LB_set (by omega)) | (simp only [n0, Nat.reduceAdd, n1, n2, n3, n4, n5, n6, n7, n8, n9]; try rfl)); (first | exact zl rfl | exact LB_le (by omega)); exact rfl; infer_instance; clear hp; (try clear w1); intro w1 hp)
          | ((with_reducible first | refine sx_call hp (K1.out _) ?_ | refine sx_call hp (K2.out _) ?_ | refine sx_call hp (awake3 _) ?_); clear hp; (try clear w1); intro w1 hp))
    exact bodyPost_ret (results_one rfl rfl) rfl ⟨rfl, hp.keep⟩
  · skip
    go_wp2_with (first
          | ((with_reducible apply sx_guard); (conv => whnf); refine Bx.mk ?_; (try simp only [zp, zq, z0, z1]))
          | ((with_reducible apply sx_box hp); exact za rfl; exact rfl; clear hp; (try clear w1); intro g w1 hp; simp only [zp, zq, z0, z1])
          | ((with_reducible apply sx_alloc hp); infer_instance; exact rfl; clear hp; (try clear w1); intro g w1 hp; simp only [zp, zq, z0, z1])
          | ((with_reducible apply sx_load_agg hp); exact zt rfl; infer_instance; infer_instance; (first | exact zl rfl | exact LB_le (by omega)); (first | (with_reducible exact LB_set (by omega)) | (simp only [n0, Nat.reduceAdd, n1, n2, n3, n4, n5, n6, n7, n8, n9]; try rfl)); simp only [zp, zq, z0, z1])
          | ((with_reducible apply sx_store hp); exact zt rfl; exact za rfl; exact rfl; (first | exact AggTy.size | exact OneTy.size); exact rfl; infer_instance; (first | (with_reducible exact LB_set (by omega)) | (simp only [n0, Nat.reduceAdd, n1, n2, n3, n4, n5, n6, n7, n8, n9]; try rfl)); (first | exact zl rfl | exact LB_le (by omega)); exact rfl; infer_instance; clear hp; (try clear w1); intro w1 hp)
          | ((with_reducible first | refine sx_call hp (K1.out _) ?_ | refine sx_call hp (K2.out _) ?_ | refine sx_call hp (awake3 _) ?_); clear hp; (try clear w1); intro w1 hp))
    exact bodyPost_ret (results_one rfl rfl) rfl ⟨rfl, hp.keep⟩
theorem cmp_lt {a b : Int} : cmp a b < 0 ↔ a < b := by
  unfold cmp
  split
  · exact ⟨fun _ => by omega, fun _ => by omega⟩
  · split
    · exact ⟨fun _ => by omega, fun _ => by omega⟩
    · exact ⟨fun _ => by omega, fun _ => by omega⟩
theorem length_law (a : P3) (ha : a.i64) (w : World) : Calls Try.prog 9 #[PV a] w (Ret (.bool true) w) := by
  have L1 := vlen_any a ha
  have L2 := vlenup_any a ha
  have hd := dot_bd ha ha
  have h0 := dot_self a
  have hn : Fit (a.dot a) := by unfold Fit M511; omega
  have hsq := lsquare_any a ha
  obtain ⟨r1, r2⟩ := rt_spec h0
  have r0 := rt_nonneg (a.dot a)
  by_cases hm : lenv a true = 9223372036854775807
  · rw [hm] at L2
    exact length_max a (lenv a false) (by have := cl_i64 (if false then rtUp (a.dot a) else rt (a.dot a)); unfold lenv; unfold I64 at this; omega) (Lib.hid L1) (Lib.hid L2) w
  · have hup : rtUp (a.dot a) = lenv a true ∧ lenv a true < 9223372036854775807 := by
      have := rtUp_nonneg (a.dot a)
      unfold lenv cl at *
      simp only [if_true] at *
      split at hm <;> (try split at hm) <;> omega
    have hle := rt_le_up (a.dot a)
    have hl : rt (a.dot a) = lenv a false := by
      unfold lenv cl
      simp only [Bool.false_eq_true, if_false]
      rw [if_neg (by omega), if_neg (by omega)]
    have hud : rtUp (a.dot a) = if rt (a.dot a) * rt (a.dot a) = a.dot a then rt (a.dot a) else rt (a.dot a) + 1 := rfl
    rw [hl] at r1 r2 r0 hle hud
    rw [hup.1] at hle hud
    obtain ⟨_, hmx⟩ := hup
    generalize lenv a false = l at *
    generalize lenv a true = up at *
    generalize hnn : a.dot a = n at *
    have i1 : I64 l := by unfold I64; omega
    have i2 : I64 (l + 1) := by unfold I64; omega
    have s2 := lsquare_any ⟨l, 0, 0⟩ (p3i (by unfold I64 at i1; omega))
    rw [show P3.dot ⟨l, 0, 0⟩ ⟨l, 0, 0⟩ = l * l by unfold P3.dot; dsimp only; omega] at s2
    have s3 := lsquare_any ⟨l + 1, 0, 0⟩ (p3i (by unfold I64 at i2; omega))
    rw [show P3.dot ⟨l + 1, 0, 0⟩ ⟨l + 1, 0, 0⟩ = (l + 1) * (l + 1) by unfold P3.dot; dsimp only; omega] at s3
    have f1 : Fit (l * l) := prod_i64 i1 i1
    have f2 : Fit ((l + 1) * (l + 1)) := prod_i64 i2 i2
    refine length_core a l up n (l * l) ((l + 1) * (l + 1)) (cmp (l * l) n) (cmp n ((l + 1) * (l + 1))) r0 (by omega) (by simp; omega) (cmp_le.2 r1) (cmp_lt.2 r2) (decide (l * l = n)) ?_ (eqb_fit f1 hn) hle (by rw [hud]; split <;> omega) (Lib.hid L1) (Lib.hid L2) (Lib.hid hsq) (Lib.hid s2) (Lib.hid s3) (Lib.hid (cmp_any _ _ f1 hn)) (Lib.hid (cmp_any _ _ hn f2)) w
    by_cases he : l * l = n
    · rw [if_pos he] at hud
      rw [decide_eq_true he, hud]
      simp
    · rw [if_neg he] at hud
      rw [decide_eq_false he, hud]
      simp
      omega
end Go.Proofs.Ytnipjafcgicddaa
set_option linter.unusedSimpArgs false
set_option linter.unusedVariables false
set_option maxRecDepth 100000
namespace Go.Proofs.Ytnipjafcgicddaa
open Go Go.RowKit
attribute [local irreducible] wpList

set_option maxHeartbeats 8000000 in
theorem same3_core (a v k : P3) (t : Int) (f : Bool) (l u : Int) (hf : (decide (-9223372036854775808 < a.x) = false ∧ f = false) ∨ (-9223372036854775808 < a.x ∧ decide (-9223372036854775808 < a.y) = false ∧ f = false) ∨ (-9223372036854775808 < a.x ∧ -9223372036854775808 < a.y ∧ f = decide (-9223372036854775808 < a.z)))
    (B1 : Hid (∀ w, Calls Try.prog 39 #[.agg #[.int .i64 0, .int .i64 0, .int .i64 0], PV a] w (Ret (PV k) w)))
    (S1 : Hid (∀ w, Calls Try.prog 43 #[PV a, .int .i64 4294967296] w (Ret (PV a) w)))
    (M1 : Hid (∀ w, Calls Try.prog 35 #[PV a, PV v, .int .i64 0] w (Ret (PV a) w)))
    (M2 : Hid (∀ w, Calls Try.prog 35 #[PV a, .agg #[.int .i64 0, .int .i64 0, .int .i64 0], .int .i64 t] w (Ret (PV a) w)))
    (L1 : Hid (f = true → ∀ w, Calls Try.prog 30 #[PV a] w (Ret (.int .i64 l) w))) (L2 : Hid (f = true → ∀ w, Calls Try.prog 30 #[PV k] w (Ret (.int .i64 l) w)))
    (U1 : Hid (f = true → ∀ w, Calls Try.prog 32 #[PV a] w (Ret (.int .i64 u) w))) (U2 : Hid (f = true → ∀ w, Calls Try.prog 32 #[PV k] w (Ret (.int .i64 u) w))) (w : World) :
    Calls Try.prog 14 #[PV a, PV v, .int .i64 t] w (Ret (.bool true) w) := by
  obtain ⟨ax, ay, az⟩ := a
  obtain ⟨vx, vy, vz⟩ := v
  obtain ⟨kx, ky, kz⟩ := k
  dsimp only at hf
  go_enter Try.func14, Try.ntmps14
  have hp := Hp.start [] w
  go_upto_region 2 with (first
          | ((with_reducible apply sx_box hp); exact za rfl; exact rfl; clear hp; (try clear w1); intro g w1 hp; simp only [zp, zq, z0, z1])
          | ((with_reducible apply sx_alloc hp); infer_instance; exact rfl; clear hp; (try clear w1); intro g w1 hp; simp only [zp, zq, z0, z1])
          | ((with_reducible apply sx_load_agg hp); exact zt rfl; infer_instance; infer_instance; (first | exact zl rfl | exact LB_le (by omega)); (first | (with_reducible exact LB_set (by omega)) | (simp only [n0, Nat.reduceAdd, n1, n2, n3, n4, n5, n6, n7, n8, n9]; try rfl)); simp only [zp, zq, z0, z1])
          | ((with_reducible apply sx_load_one hp); exact zt rfl; infer_instance; infer_instance; (first | exact zio rfl | exact LB_get (by omega)); simp only [zp, zq, z0, z1])
          | ((with_reducible apply sx_store hp); exact zt rfl; exact za rfl; exact rfl; (first | exact AggTy.size | exact OneTy.size); exact rfl; infer_instance; (first | (with_reducible exact LB_set (by omega)) | (simp only [n0, Nat.reduceAdd, n1, n2, n3, n4, n5, n6, n7, n8, n9]; try rfl)); (first | exact zl rfl | exact LB_le (by omega)); exact rfl; infer_instance; clear hp; (try clear w1); intro w1 hp)
          | ((with_reducible refine sx_call hp (B1.out _) ?_); clear hp; (try clear w1); intro w1 hp))
  rename_i ga gv K hK
  obtain ⟨gk, rfl⟩ : ∃ k : Nat, k = g := ⟨_, rfl⟩
  clear B1
  go_cut [8] (fun s8 wx => s8 = .bool f ∧ Hp [] w [⟨gk, 24, [.int .i64 kx, .int .i64 ky, .int .i64 kz]⟩, ⟨gv, 24, [.int .i64 vx, .int .i64 vy, .int .i64 vz]⟩, ⟨ga, 24, [.int .i64 ax, .int .i64 ay, .int .i64 az]⟩] wx)
  case first =>
    clear S1 M1 M2 L1 L2 U1 U2
    rcases hf with ⟨h1, rfl⟩ | ⟨h1, h2, rfl⟩ | ⟨h1, h2, rfl⟩
    all_goals
      skip
      go_wp2_with (first
          | ((with_reducible apply sx_guard); (conv => whnf); refine Bx.mk ?_; (try simp only [zp, zq, z0, z1]))
          | ((with_reducible apply sx_box hp); exact za rfl; exact rfl; clear hp; (try clear w1); intro g w1 hp; simp only [zp, zq, z0, z1])
          | ((with_reducible apply sx_alloc hp); infer_instance; exact rfl; clear hp; (try clear w1); intro g w1 hp; simp only [zp, zq, z0, z1])
          | ((with_reducible apply sx_load_agg hp); exact zt rfl; infer_instance; infer_instance; (first | exact zl rfl | exact LB_le (by omega)); (first | (with_reducible exact LB_set (by omega)) | (simp only [n0, Nat.reduceAdd, n1, n2, n3, n4, n5, n6, n7, n8, n9]; try rfl)); simp only [zp, zq, z0, z1])
          | ((with_reducible apply sx_load_one hp); exact zt rfl; infer_instance; infer_instance; (first | exact zio rfl | exact LB_get (by omega)); simp only [zp, zq, z0, z1])
          | ((with_reducible apply sx_store hp); exact zt rfl; exact za rfl; exact rfl; (first | exact AggTy.size | exact OneTy.size); exact rfl; infer_instance; (first | (with_reducible exact LB_set (by omega)) | (simp only [n0, Nat.reduceAdd, n1, n2, n3, n4, n5, n6, n7, n8, n9]; try rfl)); (first | exact zl rfl | exact LB_le (by omega)); exact rfl; infer_instance; clear hp; (try clear w1); intro w1 hp))
      go_meet
      exact ⟨rfl, hp⟩
  case rest =>
    clear hp hf
    obtain ⟨rfl, hp⟩ := hcut
    go_upto_region 3 with fail
    cases f with
    | false =>
      clear L1 L2 U1 U2
      have hq := hp
      refine wp_drawnG_hp hp hq [] (.q 0 (.q 2 (.p 1 (.q 3 (.q 4 (.q 5 (.q 6 (.q 8 (.p 7 (.q 9 (.q 10 (.q 11 (.q 12 (.q 13 (.q 14 (.q 16 (.p 15 (.q 17 (.q 18 (.q 19 (.q 20 (.q 21 (.q 22 (.q 23 (.q 25 (.p 24 (.p 26 (.q 27 (.q 28 (.q 29 (.q 31 (.p 30 (.p 32 (.q 33 (.q 34 (.q 35 (.q 36 (.q 37 (.p 38 (.q 39 (.q 40 .nil))))))))))))))))))))))))))))))))))))))))) (by kernel_rfl) (by kernel_rfl) ?_
      clear hp hq; (try clear w1); intro w1 hp hq
      repeat' (first
        | (((with_reducible apply sg_q); exact zo rfl); (first
            | ((with_reducible apply sg_load_agg hp); exact rfl; exact zt rfl; infer_instance; infer_instance; (first | exact zl rfl | exact LB_le (by omega)); (first | (with_reducible exact LB_set (by omega)) | (simp only [n0, Nat.reduceAdd, n1, n2, n3, n4, n5, n6, n7, n8, n9]; try rfl)); simp only [zp, zq, z0, z1])
            | ((with_reducible apply sg_move hp); (first | exact zb rfl | exact zi rfl); simp only [zp, zq, z0, z1])
            | ((with_reducible apply sg_assign hp); exact zb rfl; simp only [zp, zq, z0, z1])
            | ((with_reducible apply sg_pure hp); exact rfl; (focus (intro _; go_simp; (try go_ints); try with_reducible rfl)); simp only [zp, zq, z0, z1])
            | ((with_reducible apply sg_skip hp); exact rfl; simp only [zp, zq, z0, z1])))
        | (((with_reducible apply sg_p); exact zo rfl); (first
            | ((with_reducible apply sg_call hp); exact rfl; (focus (intro _; go_simp; try first | with_reducible rfl | exact ⟨rfl, rfl⟩)); (with_reducible first | exact fun w => S1.out w | exact fun w => M1.out w | exact fun w => M2.out w | exact fun w => awake3 w); simp only [zp, zq, z0, z1])
            | ((with_reducible apply sg_skipP hp); exact rfl; simp only [zp, zq, z0, z1])))
        | ((with_reducible apply sg_nil hq); clear hp hq; (try clear w1); intro w1 hp))
      go_wp2
      exact bodyPost_ret (results_one rfl rfl) rfl ⟨rfl, hp.keep⟩
    | true =>
      have L3 := Lib.hid (L1.out rfl)
      have L4 := Lib.hid (L2.out rfl)
      have U3 := Lib.hid (U1.out rfl)
      have U4 := Lib.hid (U2.out rfl)
      clear L1 L2 U1 U2
      have hq := hp
      refine wp_drawnG_hp hp hq [] (.q 0 (.q 2 (.p 1 (.q 3 (.q 4 (.q 5 (.q 6 (.q 8 (.p 7 (.q 9 (.q 10 (.q 11 (.q 12 (.q 13 (.q 14 (.q 16 (.p 15 (.q 17 (.q 18 (.q 19 (.q 20 (.q 21 (.q 22 (.q 23 (.q 25 (.p 24 (.p 26 (.q 27 (.q 28 (.q 29 (.q 31 (.p 30 (.p 32 (.q 33 (.q 34 (.q 35 (.q 36 (.q 37 (.p 38 (.q 39 (.q 40 .nil))))))))))))))))))))))))))))))))))))))))) (by kernel_rfl) (by kernel_rfl) ?_
      clear hp hq; (try clear w1); intro w1 hp hq
      repeat' (first
        | (((with_reducible apply sg_q); exact zo rfl); (first
            | ((with_reducible apply sg_load_agg hp); exact rfl; exact zt rfl; infer_instance; infer_instance; (first | exact zl rfl | exact LB_le (by omega)); (first | (with_reducible exact LB_set (by omega)) | (simp only [n0, Nat.reduceAdd, n1, n2, n3, n4, n5, n6, n7, n8, n9]; try rfl)); simp only [zp, zq, z0, z1])
            | ((with_reducible apply sg_move hp); (first | exact zb rfl | exact zi rfl); simp only [zp, zq, z0, z1])
            | ((with_reducible apply sg_assign hp); exact zb rfl; simp only [zp, zq, z0, z1])
            | ((with_reducible apply sg_pure hp); exact rfl; (focus (intro _; go_simp; (try go_ints); try with_reducible rfl)); simp only [zp, zq, z0, z1])
            | ((with_reducible apply sg_skip hp); exact rfl; simp only [zp, zq, z0, z1])))
        | (((with_reducible apply sg_p); exact zo rfl); (first
            | ((with_reducible apply sg_call hp); exact rfl; (focus (intro _; go_simp; try first | with_reducible rfl | exact ⟨rfl, rfl⟩)); (with_reducible first | exact fun w => S1.out w | exact fun w => M1.out w | exact fun w => M2.out w | exact fun w => L3.out w | exact fun w => L4.out w | exact fun w => U3.out w | exact fun w => U4.out w | exact fun w => awake3 w); simp only [zp, zq, z0, z1])
            | ((with_reducible apply sg_skipP hp); exact rfl; simp only [zp, zq, z0, z1])))
        | ((with_reducible apply sg_nil hq); clear hp hq; (try clear w1); intro w1 hp))
      go_wp2
      exact bodyPost_ret (results_one rfl rfl) rfl ⟨rfl, hp.keep⟩
theorem same3_law (a : P3) (ha : a.i64) (v : P3) (hv : v.i64) (t : Int) (ht : I64 t) (w : World) : Calls Try.prog 14 #[PV a, PV v, .int .i64 t] w (Ret (.bool true) w) := by
  have z3 : P3.i64 ⟨0, 0, 0⟩ := p3i (by omega)
  have one : ∀ x, I64 x → cl (x * 4294967296 / 4294967296) = x := fun x hx => by
    rw [Int.mul_ediv_cancel _ (by omega)]
    exact cl_id hx
  have S1 := vscale_any a 4294967296 ha (by unfold I64; omega)
  rw [show a.cscale 4294967296 = a by unfold P3.cscale; rw [one _ ha.1, one _ ha.2.1, one _ ha.2.2]] at S1
  have f0 : ∀ x v, I64 x → furv x v 0 = x := fun x v hx => by unfold furv; rw [Int.mul_zero, Int.add_zero]; exact one x hx
  have f1 : ∀ x t, I64 x → furv x 0 t = x := fun x v hx => by unfold furv; rw [Int.zero_mul, Int.add_zero]; exact one x hx
  have M1 := vmove_any a v 0 ha hv (by unfold I64; omega)
  rw [show a.cmove v 0 = a by unfold P3.cmove; rw [f0 _ _ ha.1, f0 _ _ ha.2.1, f0 _ _ ha.2.2]] at M1
  have M2 := vmove_any a ⟨0, 0, 0⟩ t ha z3 ht
  rw [show a.cmove ⟨0, 0, 0⟩ t = a by unfold P3.cmove; rw [f1 _ _ ha.1, f1 _ _ ha.2.1, f1 _ _ ha.2.2]] at M2
  have hk := csub_i64 ⟨0, 0, 0⟩ a
  by_cases hx : -9223372036854775808 < a.x
  · by_cases hy : -9223372036854775808 < a.y
    · have hd : -9223372036854775808 < a.z → (P3.csub ⟨0, 0, 0⟩ a).dot (P3.csub ⟨0, 0, 0⟩ a) = a.dot a := fun hz => by
        have c : ∀ x, I64 x → -9223372036854775808 < x → cl (0 - x) = -x := fun x h1 h2 => by
          unfold I64 at h1
          unfold cl
          rw [if_neg (by omega), if_neg (by omega)]
          omega
        unfold P3.csub P3.dot
        dsimp only
        rw [c _ ha.1 hx, c _ ha.2.1 hy, c _ ha.2.2 hz, Int.neg_mul_neg, Int.neg_mul_neg, Int.neg_mul_neg]
      refine same3_core a v (P3.csub ⟨0, 0, 0⟩ a) t (decide (-9223372036854775808 < a.z)) (lenv a false) (lenv a true) (.inr (.inr ⟨hx, hy, rfl⟩)) (Lib.hid (vsub_any ⟨0, 0, 0⟩ a z3 ha)) (Lib.hid S1) (Lib.hid M1) (Lib.hid M2) (Lib.hid fun _ => vlen_any a ha) (Lib.hid fun h => ?_) (Lib.hid fun _ => vlenup_any a ha) (Lib.hid fun h => ?_) w
      · have h2 := hd (of_decide_eq_true h)
        have := vlen_any _ hk
        unfold lenv at *
        rwa [h2] at this
      · have h2 := hd (of_decide_eq_true h)
        have := vlenup_any _ hk
        unfold lenv at *
        rwa [h2] at this
    · exact same3_core a v (P3.csub ⟨0, 0, 0⟩ a) t false 0 0 (.inr (.inl ⟨hx, decide_eq_false hy, rfl⟩)) (Lib.hid (vsub_any ⟨0, 0, 0⟩ a z3 ha)) (Lib.hid S1) (Lib.hid M1) (Lib.hid M2) (Lib.hid fun h => by cases h) (Lib.hid fun h => by cases h) (Lib.hid fun h => by cases h) (Lib.hid fun h => by cases h) w
  · exact same3_core a v (P3.csub ⟨0, 0, 0⟩ a) t false 0 0 (.inl ⟨decide_eq_false hx, rfl⟩) (Lib.hid (vsub_any ⟨0, 0, 0⟩ a z3 ha)) (Lib.hid S1) (Lib.hid M1) (Lib.hid M2) (Lib.hid fun h => by cases h) (Lib.hid fun h => by cases h) (Lib.hid fun h => by cases h) (Lib.hid fun h => by cases h) w
/-! ### VecBack -/
set_option maxHeartbeats 8000000 in
theorem back_core (a b d : P3) (r n : Int) (x y z f v : Bool) (hf : (x = false ∧ f = false) ∨ (x = true ∧ y = false ∧ f = false) ∨ (x = true ∧ y = true ∧ f = z))
    (D1 : Hid (∀ w, Calls Try.prog 39 #[PV a, PV b] w (Ret (PV d) w)))
    (I1 : Hid (∀ w, Calls Try.prog 40 #[.int .i64 d.x] w (Ret (.bool x) w))) (I2 : Hid (∀ w, Calls Try.prog 40 #[.int .i64 d.y] w (Ret (.bool y) w))) (I3 : Hid (∀ w, Calls Try.prog 40 #[.int .i64 d.z] w (Ret (.bool z) w)))
    (A1 : Hid (f = true → ∀ w, Calls Try.prog 37 #[PV d, PV b] w (Ret (PV a) w)))
    (N1 : Hid (∀ w, Calls Try.prog 33 #[PV a, PV b, .int .i64 r] w (Ret (.bool v) w))) (N2 : Hid (∀ w, Calls Try.prog 33 #[PV b, PV a, .int .i64 r] w (Ret (.bool v) w)))
    (L1 : Hid (∀ w, Calls Try.prog 32 #[PV d] w (Ret (.int .i64 n) w)))
    (N3 : Hid (f = true → n ≠ 9223372036854775807 → ∀ w, Calls Try.prog 33 #[PV a, PV b, .int .i64 n] w (Ret (.bool true) w))) (w : World) :
    Calls Try.prog 12 #[PV a, PV b, .int .i64 r] w (Ret (.bool true) w) := by
  obtain ⟨ax, ay, az⟩ := a
  obtain ⟨bx, by', bz⟩ := b
  obtain ⟨dx, dy, dz⟩ := d
  dsimp only at I1 I2 I3
  go_enter Try.func12, Try.ntmps12
  have hp := Hp.start [] w
  go_upto_region 2 with (first
          | ((with_reducible apply sx_box hp); exact za rfl; exact rfl; clear hp; (try clear w1); intro g w1 hp; simp only [zp, zq, z0, z1])
          | ((with_reducible apply sx_alloc hp); infer_instance; exact rfl; clear hp; (try clear w1); intro g w1 hp; simp only [zp, zq, z0, z1])
          | ((with_reducible apply sx_load_agg hp); exact zt rfl; infer_instance; infer_instance; (first | exact zl rfl | exact LB_le (by omega)); (first | (with_reducible exact LB_set (by omega)) | (simp only [n0, Nat.reduceAdd, n1, n2, n3, n4, n5, n6, n7, n8, n9]; try rfl)); simp only [zp, zq, z0, z1])
          | ((with_reducible apply sx_load_one hp); exact zt rfl; infer_instance; infer_instance; (first | exact zio rfl | exact LB_get (by omega)); simp only [zp, zq, z0, z1])
          | ((with_reducible apply sx_store hp); exact zt rfl; exact za rfl; exact rfl; (first | exact AggTy.size | exact OneTy.size); exact rfl; infer_instance; (first | (with_reducible exact LB_set (by omega)) | (simp only [n0, Nat.reduceAdd, n1, n2, n3, n4, n5, n6, n7, n8, n9]; try rfl)); (first | exact zl rfl | exact LB_le (by omega)); exact rfl; infer_instance; clear hp; (try clear w1); intro w1 hp)
          | ((with_reducible refine sx_call hp (D1.out _) ?_); clear hp; (try clear w1); intro w1 hp))
  rename_i ga gb K hK
  obtain ⟨gd, rfl⟩ : ∃ k : Nat, k = g := ⟨_, rfl⟩
  clear D1
  go_cut [8] (fun s8 wx => s8 = .bool f ∧ Hp [] w [⟨gd, 24, [.int .i64 dx, .int .i64 dy, .int .i64 dz]⟩, ⟨gb, 24, [.int .i64 bx, .int .i64 by', .int .i64 bz]⟩, ⟨ga, 24, [.int .i64 ax, .int .i64 ay, .int .i64 az]⟩] wx)
  case first =>
    clear A1 N1 N2 N3 L1
    rcases hf with ⟨rfl, rfl⟩ | ⟨rfl, rfl, rfl⟩ | ⟨rfl, rfl, rfl⟩
    all_goals
      skip
      go_wp2_with (first
          | ((with_reducible apply sx_guard); (conv => whnf); refine Bx.mk ?_; (try simp only [zp, zq, z0, z1]))
          | ((with_reducible apply sx_box hp); exact za rfl; exact rfl; clear hp; (try clear w1); intro g w1 hp; simp only [zp, zq, z0, z1])
          | ((with_reducible apply sx_alloc hp); infer_instance; exact rfl; clear hp; (try clear w1); intro g w1 hp; simp only [zp, zq, z0, z1])
          | ((with_reducible apply sx_load_agg hp); exact zt rfl; infer_instance; infer_instance; (first | exact zl rfl | exact LB_le (by omega)); (first | (with_reducible exact LB_set (by omega)) | (simp only [n0, Nat.reduceAdd, n1, n2, n3, n4, n5, n6, n7, n8, n9]; try rfl)); simp only [zp, zq, z0, z1])
          | ((with_reducible apply sx_load_one hp); exact zt rfl; infer_instance; infer_instance; (first | exact zio rfl | exact LB_get (by omega)); simp only [zp, zq, z0, z1])
          | ((with_reducible apply sx_store hp); exact zt rfl; exact za rfl; exact rfl; (first | exact AggTy.size | exact OneTy.size); exact rfl; infer_instance; (first | (with_reducible exact LB_set (by omega)) | (simp only [n0, Nat.reduceAdd, n1, n2, n3, n4, n5, n6, n7, n8, n9]; try rfl)); (first | exact zl rfl | exact LB_le (by omega)); exact rfl; infer_instance; clear hp; (try clear w1); intro w1 hp)
          | ((with_reducible first | refine sx_call hp (I1.out _) ?_ | refine sx_call hp (I2.out _) ?_ | refine sx_call hp (I3.out _) ?_); clear hp; (try clear w1); intro w1 hp))
      go_meet
      exact ⟨rfl, hp⟩
  case rest =>
    clear hp hf I1 I2 I3
    obtain ⟨rfl, hp⟩ := hcut
    go_upto_region 3 with fail
    cases f with
    | false =>
      clear A1 N3
      have hq := hp
      refine wp_drawnG_hp hp hq [] (.q 0 (.q 1 (.q 2 (.q 3 (.q 5 (.p 4 (.q 6 (.q 7 (.q 8 (.q 9 (.q 10 (.q 11 (.q 13 (.q 14 (.q 15 (.p 12 (.p 16 (.q 17 (.q 18 .nil))))))))))))))))))) (by kernel_rfl) (by kernel_rfl) ?_
      clear hp hq; (try clear w1); intro w1 hp hq
      repeat' (first
        | (((with_reducible apply sg_q); exact zo rfl); (first
            | ((with_reducible apply sg_load_agg hp); exact rfl; exact zt rfl; infer_instance; infer_instance; (first | exact zl rfl | exact LB_le (by omega)); (first | (with_reducible exact LB_set (by omega)) | (simp only [n0, Nat.reduceAdd, n1, n2, n3, n4, n5, n6, n7, n8, n9]; try rfl)); simp only [zp, zq, z0, z1])
            | ((with_reducible apply sg_move hp); (first | exact zb rfl | exact zi rfl); simp only [zp, zq, z0, z1])
            | ((with_reducible apply sg_pure hp); exact rfl; (focus (intro _; go_simp; (try go_ints); try with_reducible rfl)); simp only [zp, zq, z0, z1])
            | ((with_reducible apply sg_skip hp); exact rfl; simp only [zp, zq, z0, z1])))
        | (((with_reducible apply sg_p); exact zo rfl); (first
            | ((with_reducible apply sg_call hp); exact rfl; (focus (intro _; go_simp; try first | with_reducible rfl | exact ⟨rfl, rfl⟩)); (with_reducible first | exact fun w => N1.out w | exact fun w => N2.out w); simp only [zp, zq, z0, z1])
            | ((with_reducible apply sg_skipP hp); exact rfl; simp only [zp, zq, z0, z1])))
        | ((with_reducible apply sg_nil hq); clear hp hq; (try clear w1); intro w1 hp))
      go_wp2_with (first
          | ((with_reducible apply sx_guard); (conv => whnf); refine Bx.mk ?_; (try simp only [zp, zq, z0, z1]))
          | ((with_reducible apply sx_box hp); exact za rfl; exact rfl; clear hp; (try clear w1); intro g w1 hp; simp only [zp, zq, z0, z1])
          | ((with_reducible apply sx_alloc hp); infer_instance; exact rfl; clear hp; (try clear w1); intro g w1 hp; simp only [zp, zq, z0, z1])
          | ((with_reducible apply sx_load_agg hp); exact zt rfl; infer_instance; infer_instance; (first | exact zl rfl | exact LB_le (by omega)); (first | (with_reducible exact LB_set (by omega)) | (simp only [n0, Nat.reduceAdd, n1, n2, n3, n4, n5, n6, n7, n8, n9]; try rfl)); simp only [zp, zq, z0, z1])
          | ((with_reducible apply sx_load_one hp); exact zt rfl; infer_instance; infer_instance; (first | exact zio rfl | exact LB_get (by omega)); simp only [zp, zq, z0, z1])
          | ((with_reducible apply sx_store hp); exact zt rfl; exact za rfl; exact rfl; (first | exact AggTy.size | exact OneTy.size); exact rfl; infer_instance; (first | (with_reducible exact LB_set (by omega)) | (simp only [n0, Nat.reduceAdd, n1, n2, n3, n4, n5, n6, n7, n8, n9]; try rfl)); (first | exact zl rfl | exact LB_le (by omega)); exact rfl; infer_instance; clear hp; (try clear w1); intro w1 hp)
          | ((with_reducible first | refine sx_call hp (L1.out _) ?_ | refine sx_call hp (awake3 _) ?_); clear hp; (try clear w1); intro w1 hp))
      exact bodyPost_ret (results_one rfl rfl) rfl ⟨rfl, hp.keep⟩
    | true =>
      have A2 := Lib.hid (A1.out rfl)
      clear A1
      by_cases hn : n = 9223372036854775807
      · subst hn
        clear N3
        have hq := hp
        refine wp_drawnG_hp hp hq [] (.q 0 (.q 1 (.q 2 (.q 3 (.q 5 (.p 4 (.q 6 (.q 7 (.q 8 (.q 9 (.q 10 (.q 11 (.q 13 (.q 14 (.q 15 (.p 12 (.p 16 (.q 17 (.q 18 .nil))))))))))))))))))) (by kernel_rfl) (by kernel_rfl) ?_
        clear hp hq; (try clear w1); intro w1 hp hq
        repeat' (first
          | (((with_reducible apply sg_q); exact zo rfl); (first
              | ((with_reducible apply sg_load_agg hp); exact rfl; exact zt rfl; infer_instance; infer_instance; (first | exact zl rfl | exact LB_le (by omega)); (first | (with_reducible exact LB_set (by omega)) | (simp only [n0, Nat.reduceAdd, n1, n2, n3, n4, n5, n6, n7, n8, n9]; try rfl)); simp only [zp, zq, z0, z1])
              | ((with_reducible apply sg_move hp); (first | exact zb rfl | exact zi rfl); simp only [zp, zq, z0, z1])
              | ((with_reducible apply sg_pure hp); exact rfl; (focus (intro _; go_simp; (try go_ints); try with_reducible rfl)); simp only [zp, zq, z0, z1])
              | ((with_reducible apply sg_skip hp); exact rfl; simp only [zp, zq, z0, z1])))
          | (((with_reducible apply sg_p); exact zo rfl); (first
              | ((with_reducible apply sg_call hp); exact rfl; (focus (intro _; go_simp; try first | with_reducible rfl | exact ⟨rfl, rfl⟩)); (with_reducible first | exact fun w => A2.out w | exact fun w => N1.out w | exact fun w => N2.out w); simp only [zp, zq, z0, z1])
              | ((with_reducible apply sg_skipP hp); exact rfl; simp only [zp, zq, z0, z1])))
          | ((with_reducible apply sg_nil hq); clear hp hq; (try clear w1); intro w1 hp))
        go_wp2_with (first
          | ((with_reducible apply sx_guard); (conv => whnf); refine Bx.mk ?_; (try simp only [zp, zq, z0, z1]))
          | ((with_reducible apply sx_box hp); exact za rfl; exact rfl; clear hp; (try clear w1); intro g w1 hp; simp only [zp, zq, z0, z1])
          | ((with_reducible apply sx_alloc hp); infer_instance; exact rfl; clear hp; (try clear w1); intro g w1 hp; simp only [zp, zq, z0, z1])
          | ((with_reducible apply sx_load_agg hp); exact zt rfl; infer_instance; infer_instance; (first | exact zl rfl | exact LB_le (by omega)); (first | (with_reducible exact LB_set (by omega)) | (simp only [n0, Nat.reduceAdd, n1, n2, n3, n4, n5, n6, n7, n8, n9]; try rfl)); simp only [zp, zq, z0, z1])
          | ((with_reducible apply sx_load_one hp); exact zt rfl; infer_instance; infer_instance; (first | exact zio rfl | exact LB_get (by omega)); simp only [zp, zq, z0, z1])
          | ((with_reducible apply sx_store hp); exact zt rfl; exact za rfl; exact rfl; (first | exact AggTy.size | exact OneTy.size); exact rfl; infer_instance; (first | (with_reducible exact LB_set (by omega)) | (simp only [n0, Nat.reduceAdd, n1, n2, n3, n4, n5, n6, n7, n8, n9]; try rfl)); (first | exact zl rfl | exact LB_le (by omega)); exact rfl; infer_instance; clear hp; (try clear w1); intro w1 hp)
          | ((with_reducible first | refine sx_call hp (L1.out _) ?_ | refine sx_call hp (awake3 _) ?_); clear hp; (try clear w1); intro w1 hp))
        exact bodyPost_ret (results_one rfl rfl) rfl ⟨rfl, hp.keep⟩
      · have N4 := Lib.hid (N3.out rfl hn)
        have hb : (n == 9223372036854775807) = false := by simp [hn]
        clear N3 hn
        have hq := hp
        refine wp_drawnG_hp hp hq [] (.q 0 (.q 1 (.q 2 (.q 3 (.q 5 (.p 4 (.q 6 (.q 7 (.q 8 (.q 9 (.q 10 (.q 11 (.q 13 (.q 14 (.q 15 (.p 12 (.p 16 (.q 17 (.q 18 .nil))))))))))))))))))) (by kernel_rfl) (by kernel_rfl) ?_
        clear hp hq; (try clear w1); intro w1 hp hq
        repeat' (first
          | (((with_reducible apply sg_q); exact zo rfl); (first
              | ((with_reducible apply sg_load_agg hp); exact rfl; exact zt rfl; infer_instance; infer_instance; (first | exact zl rfl | exact LB_le (by omega)); (first | (with_reducible exact LB_set (by omega)) | (simp only [n0, Nat.reduceAdd, n1, n2, n3, n4, n5, n6, n7, n8, n9]; try rfl)); simp only [zp, zq, z0, z1])
              | ((with_reducible apply sg_move hp); (first | exact zb rfl | exact zi rfl); simp only [zp, zq, z0, z1])
              | ((with_reducible apply sg_pure hp); exact rfl; (focus (intro _; go_simp; (try go_ints); try with_reducible rfl)); simp only [zp, zq, z0, z1])
              | ((with_reducible apply sg_skip hp); exact rfl; simp only [zp, zq, z0, z1])))
          | (((with_reducible apply sg_p); exact zo rfl); (first
              | ((with_reducible apply sg_call hp); exact rfl; (focus (intro _; go_simp; try first | with_reducible rfl | exact ⟨rfl, rfl⟩)); (with_reducible first | exact fun w => A2.out w | exact fun w => N1.out w | exact fun w => N2.out w); simp only [zp, zq, z0, z1])
              | ((with_reducible apply sg_skipP hp); exact rfl; simp only [zp, zq, z0, z1])))
          | ((with_reducible apply sg_nil hq); clear hp hq; (try clear w1); intro w1 hp))
        go_wp2_with (first
          | ((with_reducible apply sx_guard); (conv => whnf); refine Bx.mk ?_; (try simp only [zp, zq, z0, z1]))
          | ((with_reducible apply sx_box hp); exact za rfl; exact rfl; clear hp; (try clear w1); intro g w1 hp; simp only [zp, zq, z0, z1])
          | ((with_reducible apply sx_alloc hp); infer_instance; exact rfl; clear hp; (try clear w1); intro g w1 hp; simp only [zp, zq, z0, z1])
          | ((with_reducible apply sx_load_agg hp); exact zt rfl; infer_instance; infer_instance; (first | exact zl rfl | exact LB_le (by omega)); (first | (with_reducible exact LB_set (by omega)) | (simp only [n0, Nat.reduceAdd, n1, n2, n3, n4, n5, n6, n7, n8, n9]; try rfl)); simp only [zp, zq, z0, z1])
          | ((with_reducible apply sx_load_one hp); exact zt rfl; infer_instance; infer_instance; (first | exact zio rfl | exact LB_get (by omega)); simp only [zp, zq, z0, z1])
          | ((with_reducible apply sx_store hp); exact zt rfl; exact za rfl; exact rfl; (first | exact AggTy.size | exact OneTy.size); exact rfl; infer_instance; (first | (with_reducible exact LB_set (by omega)) | (simp only [n0, Nat.reduceAdd, n1, n2, n3, n4, n5, n6, n7, n8, n9]; try rfl)); (first | exact zl rfl | exact LB_le (by omega)); exact rfl; infer_instance; clear hp; (try clear w1); intro w1 hp)
          | ((with_reducible first | refine sx_call hp (L1.out _) ?_ | refine sx_call hp (N4.out _) ?_ | refine sx_call hp (awake3 _) ?_); clear hp; (try clear w1); intro w1 hp))
        exact bodyPost_ret (results_one rfl rfl) rfl ⟨rfl, hp.keep⟩
theorem dist_comm (a b : P3) : a.dist b = b.dist a := by unfold P3.dist; grind
theorem and3 (x y z : Bool) : (x = false ∧ (x && (y && z)) = false) ∨ (x = true ∧ y = false ∧ (x && (y && z)) = false) ∨ (x = true ∧ y = true ∧ (x && (y && z)) = z) := by
  cases x <;> cases y <;> simp
theorem back_law (a : P3) (ha : a.i64) (b : P3) (hb : b.i64) (r : Int) (hr : I64 r) (w : World) : Calls Try.prog 12 #[PV a, PV b, .int .i64 r] w (Ret (.bool true) w) := by
  have hd := csub_i64 a b
  have N2 := vnear_any b a r hb ha hr
  rw [show nearv b a r = nearv a b r by unfold nearv; rw [dist_comm]] at N2
  have exact1 : ∀ x y, innr (cl (x - y)) → cl (x - y) = x - y := fun x y h => by
    unfold innr cl at *
    split at h <;> (try split at h) <;> omega
  have key : (decide (innr (a.csub b).x) && (decide (innr (a.csub b).y) && decide (innr (a.csub b).z))) = true → a.csub b = ⟨a.x - b.x, a.y - b.y, a.z - b.z⟩ := fun h => by
    simp only [Bool.and_eq_true, decide_eq_true_eq] at h
    obtain ⟨h1, h2, h3⟩ := h
    unfold P3.csub at *
    dsimp only at *
    rw [exact1 _ _ h1, exact1 _ _ h2, exact1 _ _ h3]
  refine back_core a b (a.csub b) r (lenv (a.csub b) true) _ _ _ _ (nearv a b r) (and3 _ _ _) (Lib.hid (vsub_any a b ha hb)) (Lib.hid (inner_any _)) (Lib.hid (inner_any _)) (Lib.hid (inner_any _)) (Lib.hid fun h => ?_) (Lib.hid (vnear_any a b r ha hb hr)) (Lib.hid N2) (Lib.hid (vlenup_any _ hd)) (Lib.hid fun h hn => ?_) w
  · have h1 := vadd_any (a.csub b) b hd hb
    have e : (a.csub b).cadd b = a := by
      rw [key h]
      unfold P3.cadd
      dsimp only
      rw [Int.sub_add_cancel, Int.sub_add_cancel, Int.sub_add_cancel, cl_id ha.1, cl_id ha.2.1, cl_id ha.2.2]
    rwa [e] at h1
  · have h1 := vnear_any a b (lenv (a.csub b) true) ha hb (cl_i64 _)
    have hs : (a.csub b).dot (a.csub b) = a.dist b := by
      rw [key h]
      rfl
    have u0 := rtUp_nonneg ((a.csub b).dot (a.csub b))
    have e : lenv (a.csub b) true = rtUp ((a.csub b).dot (a.csub b)) := by
      unfold lenv cl at *
      simp only [if_true] at *
      split at hn <;> (try split at hn) <;> first | omega | (rw [if_neg (by omega), if_neg (by omega)])
    have hv : nearv a b (lenv (a.csub b) true) = true := by
      unfold nearv
      rw [e, ← hs]
      have := (le_rtUp (dot_self (a.csub b)) u0).1 (Int.le_refl _)
      simp only [Bool.and_eq_true, decide_eq_true_eq]
      exact ⟨u0, this⟩
    rwa [hv] at h1
end Go.Proofs.Ytnipjafcgicddaa
