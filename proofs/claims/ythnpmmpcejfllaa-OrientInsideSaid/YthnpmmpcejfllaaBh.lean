/-
  Package ninepinref06: mul, three, Dot, Cross, Det (contracts).
-/
import Derived.Test.YthnpmmpcejfllaaBn
set_option linter.unusedSimpArgs false
set_option linter.unusedVariables false
set_option maxRecDepth 100000
namespace Go.Proofs.Ythnpmmpcejfllaa
open Go Go.RowKit
set_option maxHeartbeats 1000000 in
theorem rmul_i64 (a b : Int) (ha : I64 a) (hb : I64 b) (w : World) : Calls Try.prog 69 #[.int .i64 a, .int .i64 b] w (Ret (W (a * b)) w) := by
  have Ha := Lib.hid ha
  have Hb := Lib.hid hb
  clear ha hb
  go_enter Try.func69, Try.ntmps69
  have hp := Hp.start [] w
  go_wp2_with (first
          | ((with_reducible apply sx_alloc hp); infer_instance; exact rfl; clear hp; (try clear w1); intro g w1 hp; simp only [zp, zq, z0, z1])
          | ((with_reducible apply sx_store hp); exact zt rfl; exact za rfl; exact rfl; (first | exact AggTy.size | exact OneTy.size); exact rfl; infer_instance; (first | (with_reducible exact LB_set (by omega)) | (simp only [n0, Nat.reduceAdd, n1, n2, n3, n4, n5, n6, n7, n8, n9]; try rfl)); (first | exact zl rfl | exact LB_le (by omega)); exact rfl; infer_instance; clear hp; (try clear w1); intro w1 hp)
          | ((with_reducible first | refine sx_call hp (rsmall_i64 _ Ha.out _) ?_ | refine sx_call hp (rsmall_i64 _ Hb.out _) ?_ | refine sx_call hp (rtimes_i64 _ _ Ha.out Hb.out _) ?_); clear hp; (try clear w1); intro w1 hp))
  exact bodyPost_ret (results_one rfl ⟨_, rfl, run_load_agg hp (Nat.le_of_ble_eq_true rfl)⟩) rfl ⟨rfl, hp.keep⟩
theorem i64_mul3 {a b c : Int} (ha : I64 a) (hb : I64 b) (hc : I64 c) : -784637716923335095479473677900958302012794430558004314112 ≤ a * b * c ∧ a * b * c ≤ 784637716923335095479473677900958302012794430558004314112 := by
  have h1 := i64_mul ha hb
  have := bd_mul (A := 85070591730234615865843651857942052864) (by omega) (i64_bd hc)
  omega
set_option maxHeartbeats 1000000 in
theorem rthree_i64 (a b c : Int) (ha : I64 a) (hb : I64 b) (hc : I64 c) (w : World) : Calls Try.prog 68 #[.int .i64 a, .int .i64 b, .int .i64 c] w (Ret (W (a * b * c)) w) := by
  have h1 := i64_mul ha hb
  have h2 := i64_mul3 ha hb hc
  have T := Lib.hid (rtimes_fit (a * b) c (by unfold Fit M511; omega) (fit_i64 hc) (by unfold Fit M511; omega))
  have Ha := Lib.hid ha
  have Hb := Lib.hid hb
  have Hc := Lib.hid hc
  clear ha hb hc h1 h2
  go_enter Try.func68, Try.ntmps68
  have hp := Hp.start [] w
  go_wp2_with (first
          | ((with_reducible apply sx_alloc hp); infer_instance; exact rfl; clear hp; (try clear w1); intro g w1 hp; simp only [zp, zq, z0, z1])
          | ((with_reducible apply sx_store hp); exact zt rfl; exact za rfl; exact rfl; (first | exact AggTy.size | exact OneTy.size); exact rfl; infer_instance; (first | (with_reducible exact LB_set (by omega)) | (simp only [n0, Nat.reduceAdd, n1, n2, n3, n4, n5, n6, n7, n8, n9]; try rfl)); (first | exact zl rfl | exact LB_le (by omega)); exact rfl; infer_instance; clear hp; (try clear w1); intro w1 hp)
          | ((with_reducible first | refine sx_call hp (rmul_i64 _ _ Ha.out Hb.out _) ?_ | refine sx_call hp (rsmall_i64 _ Hc.out _) ?_ | refine sx_call hp (T.out _) ?_); clear hp; (try clear w1); intro w1 hp))
  exact bodyPost_ret (results_one rfl ⟨_, rfl, run_load_agg hp (Nat.le_of_ble_eq_true rfl)⟩) rfl ⟨rfl, hp.keep⟩
set_option maxHeartbeats 4000000 in
theorem rdot_any (a b : P3) (ha : a.i64) (hb : b.i64) (w : World) : Calls Try.prog 55 #[PV a, PV b] w (Ret (W (a.dot b)) w) := by
  obtain ⟨ax, ay, az⟩ := a
  obtain ⟨bx, by', bz⟩ := b
  obtain ⟨hax, hay, haz⟩ := ha
  obtain ⟨hbx, hby, hbz⟩ := hb
  dsimp only at hax hay haz hbx hby hbz
  dsimp only [P3.dot]
  have h1 := i64_mul hax hbx
  have h2 := i64_mul hay hby
  have h3 := i64_mul haz hbz
  have M1 := Lib.hid (rmul_i64 _ _ hax hbx)
  have M2 := Lib.hid (rmul_i64 _ _ hay hby)
  have M3 := Lib.hid (rmul_i64 _ _ haz hbz)
  have P1 := Lib.hid (rplus_fit (ax * bx) (ay * by') (by unfold Fit M511; omega) (by unfold Fit M511; omega) (by unfold Fit M511; omega))
  have P2 := Lib.hid (rplus_fit (ax * bx + ay * by') (az * bz) (by unfold Fit M511; omega) (by unfold Fit M511; omega) (by unfold Fit M511; omega))
  clear hax hay haz hbx hby hbz h1 h2 h3
  go_enter Try.func55, Try.ntmps55
  have hp := Hp.start [] w
  go_upto_region 1 with (first
          | ((with_reducible apply sx_box hp); (first | exact za rfl | exact zu rfl | exact zi rfl | exact zb rfl | exact zr rfl | exact zs rfl | exact zf rfl | exact zg rfl | exact zn rfl | exact zv rfl | exact zw rfl); exact rfl; clear hp; (try clear w1); intro g w1 hp; simp only [zp, zq, z0, z1])
          | ((with_reducible apply sx_alloc hp); infer_instance; exact rfl; clear hp; (try clear w1); intro g w1 hp; simp only [zp, zq, z0, z1]))
  have hq := hp
  refine wp_drawn_hp hp hq [17] (.q 0 (.q 1 (.q 2 (.q 3 (.q 5 (.q 6 (.q 7 (.q 8 (.q 11 (.q 12 (.q 13 (.q 14 (.l 4 (.l 9 (.l 10 (.l 15 (.l 16 (.l 17 .nil)))))))))))))))))) (by kernel_rfl) (by kernel_rfl) ?_
  clear hp hq; (try clear w1); intro w1 hp hq
  repeat' (first
    | (((with_reducible apply sd_q); exact zo rfl); (first
        | ((with_reducible apply sd_load_one hp); exact rfl; exact zt rfl; infer_instance; infer_instance; (first | exact zio rfl | exact LB_get (by omega)); simp only [zp, zq, z0, z1])
        | ((with_reducible apply sd_pure hp); exact rfl; (focus (intro _; go_simp; (try go_ints); try with_reducible rfl)); simp only [zp, zq, z0, z1])))
    | (((with_reducible apply sd_l); exact zo rfl); (first
        | ((with_reducible apply sd_call hp); exact rfl; (focus (intro _; go_simp; try first | with_reducible rfl | exact ⟨rfl, rfl⟩)); (with_reducible first | exact fun w => M1.out w | exact fun w => M2.out w | exact fun w => M3.out w | exact fun w => P1.out w | exact fun w => P2.out w); exact hq; clear hp hq; (try clear w1); intro w1 hp hq; simp only [zp, zq, z0, z1])
        | ((with_reducible apply sd_store_far hq); exact rfl; exact zt rfl; (first | exact za rfl | exact zu rfl | exact zi rfl | exact zb rfl | exact zr rfl | exact zs rfl | exact zf rfl | exact zg rfl | exact zn rfl | exact zv rfl | exact zw rfl); exact rfl; (first | exact AggTy.size | exact OneTy.size); exact rfl; infer_instance; (first | (with_reducible exact LB_set (by omega)) | (simp only [n0, Nat.reduceAdd, n1, n2, n3, n4, n5, n6, n7, n8, n9]; try rfl)); (first | exact zl rfl | exact LB_le (by omega)); exact rfl; infer_instance; (repeat (first | exact List.Sublist.refl _ | apply List.Sublist.cons)); clear hp hq; (try clear w1); intro w1 hp hq)
        | ((with_reducible apply sd_store hq); exact rfl; exact zt rfl; (first | exact za rfl | exact zu rfl | exact zi rfl | exact zb rfl | exact zr rfl | exact zs rfl | exact zf rfl | exact zg rfl | exact zn rfl | exact zv rfl | exact zw rfl); exact rfl; (first | exact AggTy.size | exact OneTy.size); exact rfl; infer_instance; (first | (with_reducible exact LB_set (by omega)) | (simp only [n0, Nat.reduceAdd, n1, n2, n3, n4, n5, n6, n7, n8, n9]; try rfl)); (first | exact zl rfl | exact LB_le (by omega)); exact rfl; infer_instance; exact rfl; clear hp hq; (try clear w1); intro w1 hq; have hp := True.intro)))
    | ((with_reducible apply sd_nil); clear hp; have hp := hq; clear hq))
  go_wp2
  exact bodyPost_ret (results_one rfl ⟨_, rfl, run_load_agg hp (Nat.le_of_ble_eq_true rfl)⟩) rfl ⟨rfl, hp.keep⟩
set_option maxHeartbeats 4000000 in
theorem rcross_any (a b : P3) (ha : a.i64) (hb : b.i64) (w : World) : Calls Try.prog 61 #[PV a, PV b] w (Ret (SV (a.cross b)) w) := by
  obtain ⟨ax, ay, az⟩ := a
  obtain ⟨bx, by', bz⟩ := b
  obtain ⟨hax, hay, haz⟩ := ha
  obtain ⟨hbx, hby, hbz⟩ := hb
  dsimp only at hax hay haz hbx hby hbz
  dsimp only [P3.cross]
  have M1 := Lib.hid (rmul_i64 ay bz hay hbz)
  have M2 := Lib.hid (rmul_i64 az by' haz hby)
  have h1 := i64_mul hay hbz
  have h2 := i64_mul haz hby
  have L1 := Lib.hid (rless_fit (ay * bz) (az * by') (by unfold Fit M511; omega) (by unfold Fit M511; omega) (by unfold Fit M511; omega))
  have M3 := Lib.hid (rmul_i64 az bx haz hbx)
  have M4 := Lib.hid (rmul_i64 ax bz hax hbz)
  have h3 := i64_mul haz hbx
  have h4 := i64_mul hax hbz
  have L2 := Lib.hid (rless_fit (az * bx) (ax * bz) (by unfold Fit M511; omega) (by unfold Fit M511; omega) (by unfold Fit M511; omega))
  have M5 := Lib.hid (rmul_i64 ax by' hax hby)
  have M6 := Lib.hid (rmul_i64 ay bx hay hbx)
  have h5 := i64_mul hax hby
  have h6 := i64_mul hay hbx
  have L3 := Lib.hid (rless_fit (ax * by') (ay * bx) (by unfold Fit M511; omega) (by unfold Fit M511; omega) (by unfold Fit M511; omega))
  clear hax hay haz hbx hby hbz h1 h2 h3 h4 h5 h6
  go_enter Try.func61, Try.ntmps61
  have hp := Hp.start [] w
  go_upto_region 1 with (first
          | ((with_reducible apply sx_box hp); (first | exact za rfl | exact zu rfl | exact zi rfl | exact zb rfl | exact zr rfl | exact zs rfl | exact zf rfl | exact zg rfl | exact zn rfl | exact zv rfl | exact zw rfl); exact rfl; clear hp; (try clear w1); intro g w1 hp; simp only [zp, zq, z0, z1])
          | ((with_reducible apply sx_alloc hp); infer_instance; exact rfl; clear hp; (try clear w1); intro g w1 hp; simp only [zp, zq, z0, z1]))
  have hq := hp
  refine wp_drawn_hp hp hq [34] (.q 0 (.q 1 (.q 2 (.q 3 (.q 5 (.q 6 (.q 7 (.q 8 (.q 11 (.q 12 (.q 13 (.q 14 (.q 16 (.q 17 (.q 18 (.q 19 (.q 22 (.q 23 (.q 24 (.q 25 (.q 27 (.q 28 (.q 29 (.q 30 (.l 4 (.l 9 (.l 10 (.l 15 (.l 20 (.l 21 (.l 26 (.l 31 (.l 32 (.q 33 (.l 34 .nil))))))))))))))))))))))))))))))))))) (by kernel_rfl) (by kernel_rfl) ?_
  clear hp hq; (try clear w1); intro w1 hp hq
  repeat' (first
    | (((with_reducible apply sd_q); exact zo rfl); (first
        | ((with_reducible apply sd_load_one hp); exact rfl; exact zt rfl; infer_instance; infer_instance; (first | exact zio rfl | exact LB_get (by omega)); simp only [zp, zq, z0, z1])
        | ((with_reducible apply sd_pure hp); exact rfl; (focus (intro _; go_simp; (try go_ints); try with_reducible rfl)); simp only [zp, zq, z0, z1])))
    | (((with_reducible apply sd_l); exact zo rfl); (first
        | ((with_reducible apply sd_call hp); exact rfl; (focus (intro _; go_simp; try first | with_reducible rfl | exact ⟨rfl, rfl⟩)); (with_reducible first | exact fun w => M1.out w | exact fun w => M2.out w | exact fun w => M3.out w | exact fun w => M4.out w | exact fun w => M5.out w | exact fun w => M6.out w | exact fun w => L1.out w | exact fun w => L2.out w | exact fun w => L3.out w); exact hq; clear hp hq; (try clear w1); intro w1 hp hq; simp only [zp, zq, z0, z1])
        | ((with_reducible apply sd_store_far hq); exact rfl; exact zt rfl; (first | exact za rfl | exact zu rfl | exact zi rfl | exact zb rfl | exact zr rfl | exact zs rfl | exact zf rfl | exact zg rfl | exact zn rfl | exact zv rfl | exact zw rfl); exact rfl; (first | exact AggTy.size | exact OneTy.size); exact rfl; infer_instance; (first | (with_reducible exact LB_set (by omega)) | (simp only [n0, Nat.reduceAdd, n1, n2, n3, n4, n5, n6, n7, n8, n9]; try rfl)); (first | exact zl rfl | exact LB_le (by omega)); exact rfl; infer_instance; (repeat (first | exact List.Sublist.refl _ | apply List.Sublist.cons)); clear hp hq; (try clear w1); intro w1 hp hq)
        | ((with_reducible apply sd_store hq); exact rfl; exact zt rfl; (first | exact za rfl | exact zu rfl | exact zi rfl | exact zb rfl | exact zr rfl | exact zs rfl | exact zf rfl | exact zg rfl | exact zn rfl | exact zv rfl | exact zw rfl); exact rfl; (first | exact AggTy.size | exact OneTy.size); exact rfl; infer_instance; (first | (with_reducible exact LB_set (by omega)) | (simp only [n0, Nat.reduceAdd, n1, n2, n3, n4, n5, n6, n7, n8, n9]; try rfl)); (first | exact zl rfl | exact LB_le (by omega)); exact rfl; infer_instance; exact rfl; clear hp hq; (try clear w1); intro w1 hq; have hp := True.intro)))
    | ((with_reducible apply sd_nil); clear hp; have hp := hq; clear hq))
  go_wp2
  exact bodyPost_ret (results_one rfl ⟨_, rfl, run_load_agg hp (Nat.le_of_ble_eq_true rfl)⟩) rfl ⟨rfl, hp.keep⟩
set_option maxHeartbeats 8000000 in
theorem rdet_any (a b c : P3) (ha : a.i64) (hb : b.i64) (hc : c.i64) (w : World) : Calls Try.prog 54 #[PV a, PV b, PV c] w (Ret (W (P3.det a b c)) w) := by
  obtain ⟨ax, ay, az⟩ := a
  obtain ⟨bx, by', bz⟩ := b
  obtain ⟨hax, hay, haz⟩ := ha
  obtain ⟨hbx, hby, hbz⟩ := hb
  dsimp only at hax hay haz hbx hby hbz
  obtain ⟨cx, cy, cz⟩ := c
  obtain ⟨hcx, hcy, hcz⟩ := hc
  dsimp only at hcx hcy hcz
  have e : P3.det ⟨ax, ay, az⟩ ⟨bx, by', bz⟩ ⟨cx, cy, cz⟩ = (ax * by' * cz + ay * bz * cx + az * bx * cy) - (az * by' * cx + ay * bx * cz + ax * bz * cy) := by
    simp only [P3.det, P3.dot, P3.cross]
    grind
  rw [e]
  have M1 := Lib.hid (rthree_i64 ax by' cz hax hby hcz)
  have h1 := i64_mul3 hax hby hcz
  have M2 := Lib.hid (rthree_i64 ay bz cx hay hbz hcx)
  have h2 := i64_mul3 hay hbz hcx
  have M3 := Lib.hid (rthree_i64 az bx cy haz hbx hcy)
  have h3 := i64_mul3 haz hbx hcy
  have M4 := Lib.hid (rthree_i64 az by' cx haz hby hcx)
  have h4 := i64_mul3 haz hby hcx
  have M5 := Lib.hid (rthree_i64 ay bx cz hay hbx hcz)
  have h5 := i64_mul3 hay hbx hcz
  have M6 := Lib.hid (rthree_i64 ax bz cy hax hbz hcy)
  have h6 := i64_mul3 hax hbz hcy
  have P1 := Lib.hid (rplus_fit (ax * by' * cz) (ay * bz * cx) (by unfold Fit M511; omega) (by unfold Fit M511; omega) (by unfold Fit M511; omega))
  have P2 := Lib.hid (rplus_fit (ax * by' * cz + ay * bz * cx) (az * bx * cy) (by unfold Fit M511; omega) (by unfold Fit M511; omega) (by unfold Fit M511; omega))
  have P3 := Lib.hid (rplus_fit (az * by' * cx) (ay * bx * cz) (by unfold Fit M511; omega) (by unfold Fit M511; omega) (by unfold Fit M511; omega))
  have P4 := Lib.hid (rplus_fit (az * by' * cx + ay * bx * cz) (ax * bz * cy) (by unfold Fit M511; omega) (by unfold Fit M511; omega) (by unfold Fit M511; omega))
  have L1 := Lib.hid (rless_fit (ax * by' * cz + ay * bz * cx + az * bx * cy) (az * by' * cx + ay * bx * cz + ax * bz * cy) (by unfold Fit M511; omega) (by unfold Fit M511; omega) (by unfold Fit M511; omega))
  clear hax hay haz hbx hby hbz hcx hcy hcz h1 h2 h3 h4 h5 h6 e
  go_enter Try.func54, Try.ntmps54
  have hp := Hp.start [] w
  go_upto_region 1 with (first
          | ((with_reducible apply sx_box hp); (first | exact za rfl | exact zu rfl | exact zi rfl | exact zb rfl | exact zr rfl | exact zs rfl | exact zf rfl | exact zg rfl | exact zn rfl | exact zv rfl | exact zw rfl); exact rfl; clear hp; (try clear w1); intro g w1 hp; simp only [zp, zq, z0, z1])
          | ((with_reducible apply sx_alloc hp); infer_instance; exact rfl; clear hp; (try clear w1); intro g w1 hp; simp only [zp, zq, z0, z1]))
  rename_i ga gb gc K hK
  obtain ⟨gp, rfl⟩ : ∃ x : Nat, x = g := ⟨_, rfl⟩
  go_cut [7] (fun s7 wx => ∃ g7, s7 = .pointer (some ⟨g7, 0, none⟩) ∧ Hp [] w [⟨g7, 43, [.int .u64 (lb (ax * by' * cz + ay * bz * cx + az * bx * cy) 0), .int .u64 (lb (ax * by' * cz + ay * bz * cx + az * bx * cy) 1), .int .u64 (lb (ax * by' * cz + ay * bz * cx + az * bx * cy) 2), .int .u64 (lb (ax * by' * cz + ay * bz * cx + az * bx * cy) 3), .int .u64 (lb (ax * by' * cz + ay * bz * cx + az * bx * cy) 4), .int .u64 (lb (ax * by' * cz + ay * bz * cx + az * bx * cy) 5), .int .u64 (lb (ax * by' * cz + ay * bz * cx + az * bx * cy) 6), .int .u64 (lb (ax * by' * cz + ay * bz * cx + az * bx * cy) 7)]⟩, ⟨gp, 43, [.int .u64 0, .int .u64 0, .int .u64 0, .int .u64 0, .int .u64 0, .int .u64 0, .int .u64 0, .int .u64 0]⟩, ⟨gc, 33, [.int .i64 cx, .int .i64 cy, .int .i64 cz]⟩, ⟨gb, 33, [.int .i64 bx, .int .i64 by', .int .i64 bz]⟩, ⟨ga, 33, [.int .i64 ax, .int .i64 ay, .int .i64 az]⟩] wx)
  case first =>
    have hq := hp
    refine wp_drawn_hp hp hq [24] (.q 0 (.q 1 (.q 2 (.q 3 (.q 4 (.q 5 (.q 7 (.q 8 (.q 9 (.q 10 (.q 11 (.q 12 (.q 15 (.q 16 (.q 17 (.q 18 (.q 19 (.q 20 (.b2 6 (.b2 13 (.b2 14 (.b2 21 (.b2 22 (.l 23 (.l 24 .nil)) 23 (.l 22 (.l 24 .nil))) 23 (.l 21 (.l 22 (.l 24 .nil)))) 23 (.l 14 (.l 21 (.l 22 (.l 24 .nil))))) 23 (.l 13 (.l 14 (.l 21 (.l 22 (.l 24 .nil)))))) 23 (.l 6 (.l 13 (.l 14 (.l 21 (.l 22 (.l 24 .nil))))))))))))))))))))))))) (by kernel_rfl) (by kernel_rfl) ?_
    clear hp hq; (try clear w1); intro w1 hp hq
    repeat' (first
      | (((with_reducible apply sd_q); exact zo rfl); (first
          | ((with_reducible apply sd_load_one hp); exact rfl; exact zt rfl; infer_instance; infer_instance; (first | exact zio rfl | exact LB_get (by omega)); simp only [zp, zq, z0, z1])
          | ((with_reducible apply sd_pure hp); exact rfl; (focus (intro _; go_simp; (try go_ints); try with_reducible rfl)); simp only [zp, zq, z0, z1])))
      | (((with_reducible apply sd_l); exact zo rfl); (first
          | ((with_reducible apply sd_alloc hq); (repeat (first | exact List.Sublist.refl _ | apply List.Sublist.cons)); exact rfl; infer_instance; exact rfl; clear hp hq; (try clear w1); intro g w1 hp hq; simp only [zp, zq, z0, z1])
          | ((with_reducible apply sd_call hp); exact rfl; (focus (intro _; go_simp; try first | with_reducible rfl | exact ⟨rfl, rfl⟩)); (with_reducible first | exact fun w => M1.out w | exact fun w => M2.out w | exact fun w => M3.out w | exact fun w => P1.out w | exact fun w => P2.out w); exact hq; clear hp hq; (try clear w1); intro w1 hp hq; simp only [zp, zq, z0, z1])
          | ((with_reducible apply sd_store_far hq); exact rfl; exact zt rfl; (first | exact za rfl | exact zu rfl | exact zi rfl | exact zb rfl | exact zr rfl | exact zs rfl | exact zf rfl | exact zg rfl | exact zn rfl | exact zv rfl | exact zw rfl); exact rfl; (first | exact AggTy.size | exact OneTy.size); exact rfl; infer_instance; (first | (with_reducible exact LB_set (by omega)) | (simp only [n0, Nat.reduceAdd, n1, n2, n3, n4, n5, n6, n7, n8, n9]; try rfl)); (first | exact zl rfl | exact LB_le (by omega)); exact rfl; infer_instance; (repeat (first | exact List.Sublist.refl _ | apply List.Sublist.cons)); clear hp hq; (try clear w1); intro w1 hp hq)
          | ((with_reducible apply sd_store hq); exact rfl; exact zt rfl; (first | exact za rfl | exact zu rfl | exact zi rfl | exact zb rfl | exact zr rfl | exact zs rfl | exact zf rfl | exact zg rfl | exact zn rfl | exact zv rfl | exact zw rfl); exact rfl; (first | exact AggTy.size | exact OneTy.size); exact rfl; infer_instance; (first | (with_reducible exact LB_set (by omega)) | (simp only [n0, Nat.reduceAdd, n1, n2, n3, n4, n5, n6, n7, n8, n9]; try rfl)); (first | exact zl rfl | exact LB_le (by omega)); exact rfl; infer_instance; exact rfl; clear hp hq; (try clear w1); intro w1 hq; have hp := True.intro)))
      | (with_reducible apply sd_b2)
      | ((with_reducible apply sd_nil); clear hp; have hp := hq; clear hq))
    all_goals (go_wp2_with fail; go_meet; exact ⟨_, rfl, hp⟩)
  case rest =>
  clear hp
  obtain ⟨g7, rfl, hp⟩ := hcut
  go_wp2_with (first
          | ((with_reducible apply sx_box hp); exact za rfl; exact rfl; clear hp; (try clear w1); intro g w1 hp; simp only [zp, zq, z0, z1])
          | ((with_reducible apply sx_alloc hp); infer_instance; exact rfl; clear hp; (try clear w1); intro g w1 hp; simp only [zp, zq, z0, z1])
          | ((with_reducible apply sx_load_agg hp); exact zt rfl; infer_instance; infer_instance; (first | exact zl rfl | exact LB_le (by omega)); (first | (with_reducible exact LB_set (by omega)) | (simp only [n0, Nat.reduceAdd, n1, n2, n3, n4, n5, n6, n7, n8, n9]; try rfl)); simp only [zp, zq, z0, z1])
          | ((with_reducible apply sx_load_one hp); exact zt rfl; infer_instance; infer_instance; (first | exact zio rfl | exact LB_get (by omega)); simp only [zp, zq, z0, z1])
          | ((with_reducible apply sx_store hp); exact zt rfl; exact za rfl; exact rfl; (first | exact AggTy.size | exact OneTy.size); exact rfl; infer_instance; (first | (with_reducible exact LB_set (by omega)) | (simp only [n0, Nat.reduceAdd, n1, n2, n3, n4, n5, n6, n7, n8, n9]; try rfl)); (first | exact zl rfl | exact LB_le (by omega)); exact rfl; infer_instance; clear hp; (try clear w1); intro w1 hp))
  go_cut [8] (fun s8 wx => ∃ g8, s8 = .pointer (some ⟨g8, 0, none⟩) ∧ Hp [] w [⟨g8, 43, [.int .u64 (lb (az * by' * cx + ay * bx * cz + ax * bz * cy) 0), .int .u64 (lb (az * by' * cx + ay * bx * cz + ax * bz * cy) 1), .int .u64 (lb (az * by' * cx + ay * bx * cz + ax * bz * cy) 2), .int .u64 (lb (az * by' * cx + ay * bx * cz + ax * bz * cy) 3), .int .u64 (lb (az * by' * cx + ay * bx * cz + ax * bz * cy) 4), .int .u64 (lb (az * by' * cx + ay * bx * cz + ax * bz * cy) 5), .int .u64 (lb (az * by' * cx + ay * bx * cz + ax * bz * cy) 6), .int .u64 (lb (az * by' * cx + ay * bx * cz + ax * bz * cy) 7)]⟩, ⟨g7, 43, [.int .u64 (lb (ax * by' * cz + ay * bz * cx + az * bx * cy) 0), .int .u64 (lb (ax * by' * cz + ay * bz * cx + az * bx * cy) 1), .int .u64 (lb (ax * by' * cz + ay * bz * cx + az * bx * cy) 2), .int .u64 (lb (ax * by' * cz + ay * bz * cx + az * bx * cy) 3), .int .u64 (lb (ax * by' * cz + ay * bz * cx + az * bx * cy) 4), .int .u64 (lb (ax * by' * cz + ay * bz * cx + az * bx * cy) 5), .int .u64 (lb (ax * by' * cz + ay * bz * cx + az * bx * cy) 6), .int .u64 (lb (ax * by' * cz + ay * bz * cx + az * bx * cy) 7)]⟩, ⟨gp, 43, [.int .u64 0, .int .u64 0, .int .u64 0, .int .u64 0, .int .u64 0, .int .u64 0, .int .u64 0, .int .u64 0]⟩, ⟨gc, 33, [.int .i64 cx, .int .i64 cy, .int .i64 cz]⟩, ⟨gb, 33, [.int .i64 bx, .int .i64 by', .int .i64 bz]⟩, ⟨ga, 33, [.int .i64 ax, .int .i64 ay, .int .i64 az]⟩] wx)
  case first =>
    have hq := hp
    refine wp_drawn_hp hp hq [24] (.q 0 (.q 1 (.q 2 (.q 3 (.q 4 (.q 5 (.q 7 (.q 8 (.q 9 (.q 10 (.q 11 (.q 12 (.q 15 (.q 16 (.q 17 (.q 18 (.q 19 (.q 20 (.b2 6 (.b2 13 (.b2 14 (.b2 21 (.b2 22 (.l 23 (.l 24 .nil)) 23 (.l 22 (.l 24 .nil))) 23 (.l 21 (.l 22 (.l 24 .nil)))) 23 (.l 14 (.l 21 (.l 22 (.l 24 .nil))))) 23 (.l 13 (.l 14 (.l 21 (.l 22 (.l 24 .nil)))))) 23 (.l 6 (.l 13 (.l 14 (.l 21 (.l 22 (.l 24 .nil))))))))))))))))))))))))) (by kernel_rfl) (by kernel_rfl) ?_
    clear hp hq; (try clear w1); intro w1 hp hq
    repeat' (first
      | (((with_reducible apply sd_q); exact zo rfl); (first
          | ((with_reducible apply sd_load_one hp); exact rfl; exact zt rfl; infer_instance; infer_instance; (first | exact zio rfl | exact LB_get (by omega)); simp only [zp, zq, z0, z1])
          | ((with_reducible apply sd_pure hp); exact rfl; (focus (intro _; go_simp; (try go_ints); try with_reducible rfl)); simp only [zp, zq, z0, z1])))
      | (((with_reducible apply sd_l); exact zo rfl); (first
          | ((with_reducible apply sd_alloc hq); (repeat (first | exact List.Sublist.refl _ | apply List.Sublist.cons)); exact rfl; infer_instance; exact rfl; clear hp hq; (try clear w1); intro g w1 hp hq; simp only [zp, zq, z0, z1])
          | ((with_reducible apply sd_call hp); exact rfl; (focus (intro _; go_simp; try first | with_reducible rfl | exact ⟨rfl, rfl⟩)); (with_reducible first | exact fun w => M4.out w | exact fun w => M5.out w | exact fun w => M6.out w | exact fun w => P3.out w | exact fun w => P4.out w); exact hq; clear hp hq; (try clear w1); intro w1 hp hq; simp only [zp, zq, z0, z1])
          | ((with_reducible apply sd_store_far hq); exact rfl; exact zt rfl; (first | exact za rfl | exact zu rfl | exact zi rfl | exact zb rfl | exact zr rfl | exact zs rfl | exact zf rfl | exact zg rfl | exact zn rfl | exact zv rfl | exact zw rfl); exact rfl; (first | exact AggTy.size | exact OneTy.size); exact rfl; infer_instance; (first | (with_reducible exact LB_set (by omega)) | (simp only [n0, Nat.reduceAdd, n1, n2, n3, n4, n5, n6, n7, n8, n9]; try rfl)); (first | exact zl rfl | exact LB_le (by omega)); exact rfl; infer_instance; (repeat (first | exact List.Sublist.refl _ | apply List.Sublist.cons)); clear hp hq; (try clear w1); intro w1 hp hq)
          | ((with_reducible apply sd_store hq); exact rfl; exact zt rfl; (first | exact za rfl | exact zu rfl | exact zi rfl | exact zb rfl | exact zr rfl | exact zs rfl | exact zf rfl | exact zg rfl | exact zn rfl | exact zv rfl | exact zw rfl); exact rfl; (first | exact AggTy.size | exact OneTy.size); exact rfl; infer_instance; (first | (with_reducible exact LB_set (by omega)) | (simp only [n0, Nat.reduceAdd, n1, n2, n3, n4, n5, n6, n7, n8, n9]; try rfl)); (first | exact zl rfl | exact LB_le (by omega)); exact rfl; infer_instance; exact rfl; clear hp hq; (try clear w1); intro w1 hq; have hp := True.intro)))
      | (with_reducible apply sd_b2)
      | ((with_reducible apply sd_nil); clear hp; have hp := hq; clear hq))
    all_goals (go_wp2_with fail; go_meet; exact ⟨_, rfl, hp⟩)
  case rest =>
  clear hp
  obtain ⟨g8, rfl, hp⟩ := hcut
  go_wp2_with (first
          | ((with_reducible apply sx_box hp); exact za rfl; exact rfl; clear hp; (try clear w1); intro g w1 hp; simp only [zp, zq, z0, z1])
          | ((with_reducible apply sx_alloc hp); infer_instance; exact rfl; clear hp; (try clear w1); intro g w1 hp; simp only [zp, zq, z0, z1])
          | ((with_reducible apply sx_load_agg hp); exact zt rfl; infer_instance; infer_instance; (first | exact zl rfl | exact LB_le (by omega)); (first | (with_reducible exact LB_set (by omega)) | (simp only [n0, Nat.reduceAdd, n1, n2, n3, n4, n5, n6, n7, n8, n9]; try rfl)); simp only [zp, zq, z0, z1])
          | ((with_reducible apply sx_load_one hp); exact zt rfl; infer_instance; infer_instance; (first | exact zio rfl | exact LB_get (by omega)); simp only [zp, zq, z0, z1])
          | ((with_reducible apply sx_store hp); exact zt rfl; exact za rfl; exact rfl; (first | exact AggTy.size | exact OneTy.size); exact rfl; infer_instance; (first | (with_reducible exact LB_set (by omega)) | (simp only [n0, Nat.reduceAdd, n1, n2, n3, n4, n5, n6, n7, n8, n9]; try rfl)); (first | exact zl rfl | exact LB_le (by omega)); exact rfl; infer_instance; clear hp; (try clear w1); intro w1 hp)
          | ((with_reducible refine sx_call hp (L1.out _) ?_); clear hp; (try clear w1); intro w1 hp))
  exact bodyPost_ret (results_one rfl ⟨_, rfl, run_load_agg hp (Nat.le_of_ble_eq_true rfl)⟩) rfl ⟨rfl, hp.keep⟩
end Go.Proofs.Ythnpmmpcejfllaa
