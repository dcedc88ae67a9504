/-
  ninepinlaw06: opposite, GridLagrange (contracts).
-/
import Derived.Test.YtbhlnbllkoomfaaFe
import Derived.Test.YtbhlnbllkoomfaaFb
set_option linter.unusedSimpArgs false
set_option linter.unusedVariables false
set_option maxRecDepth 100000
namespace Go.Proofs.Ytbhlnbllkoomfaa
open Go Go.RowKit

theorem neg_b128 (a : Int) (h : B128 a) (w : World) : Calls Try.prog 21 #[W a] w (Ret (.tuple #[W (-a), .bool true]) w) := by
  have hn := neg_any a (b128_fit h) w
  have hf : Fit (-a) := by unfold B128 at h; unfold Fit M511; omega
  rw [show fz (-a) = -a from if_pos hf, decide_eq_true hf] at hn
  exact hn
def P3.neg (n : P3) : P3 := ⟨-n.x, -n.y, -n.z⟩
set_option maxHeartbeats 2000000 in
theorem opp_any (n : P3) (hx : B128 n.x) (hy : B128 n.y) (hz : B128 n.z) (w : World) : Calls Try.prog 31 #[SV n] w (Ret (SV n.neg) w) := by
  obtain ⟨x, y, z⟩ := n
  dsimp only at hx hy hz
  dsimp only [P3.neg]
  have N1 := Lib.hid (neg_b128 x hx)
  have N2 := Lib.hid (neg_b128 y hy)
  have N3 := Lib.hid (neg_b128 z hz)
  clear hx hy hz
  go_enter Try.func31, Try.ntmps31
  have hp := Hp.start [] w
  go_wp2_with (first
          | ((with_reducible apply sx_box hp); exact za rfl; exact rfl; clear hp; (try clear w1); intro g w1 hp; simp only [zp, zq, z0, z1])
          | ((with_reducible apply sx_alloc hp); infer_instance; exact rfl; clear hp; (try clear w1); intro g w1 hp; simp only [zp, zq, z0, z1])
          | ((with_reducible apply sx_load_agg hp); exact zt rfl; infer_instance; infer_instance; (first | exact zl rfl | exact LB_le (by omega)); (first | (with_reducible exact LB_set (by omega)) | (simp only [n0, Nat.reduceAdd, n1, n2, n3, n4, n5, n6, n7, n8, n9]; try rfl)); simp only [zp, zq, z0, z1])
          | ((with_reducible apply sx_store hp); exact zt rfl; exact za rfl; exact rfl; (first | exact AggTy.size | exact OneTy.size); exact rfl; infer_instance; (first | (with_reducible exact LB_set (by omega)) | (simp only [n0, Nat.reduceAdd, n1, n2, n3, n4, n5, n6, n7, n8, n9]; try rfl)); (first | exact zl rfl | exact LB_le (by omega)); exact rfl; infer_instance; clear hp; (try clear w1); intro w1 hp)
          | ((with_reducible first | refine sx_call hp (N1.out _) ?_ | refine sx_call hp (N2.out _) ?_ | refine sx_call hp (N3.out _) ?_); clear hp; (try clear w1); intro w1 hp))
  exact bodyPost_ret (results_one rfl ⟨_, rfl, run_load_agg hp (Nat.le_of_ble_eq_true rfl)⟩) rfl ⟨rfl, hp.keep⟩
theorem lagrange (a b : P3) : (a.cross b).dot (a.cross b) + a.dot b * a.dot b = a.dot a * b.dot b := by
  simp only [P3.dot, P3.cross]
  grind
theorem cross_along (a b : P3) : (a.cross b).x * a.x + (a.cross b).y * a.y + (a.cross b).z * a.z = 0 ∧ (a.cross b).x * b.x + (a.cross b).y * b.y + (a.cross b).z * b.z = 0 := by
  simp only [P3.cross]
  refine ⟨by grind, by grind⟩
theorem cross_turn (a b : P3) : b.cross a = (a.cross b).neg := by
  simp only [P3.cross, P3.neg, P3.mk.injEq]
  refine ⟨by grind, by grind, by grind⟩
theorem dot_turn (a b : P3) : b.dot a = a.dot b := by
  simp only [P3.dot]
  grind
theorem dot_b129 {a b : P3} (ha : a.i64) (hb : b.i64) : -255211775190703847597530955573826158592 ≤ a.dot b ∧ a.dot b ≤ 255211775190703847597530955573826158592 := by
  have h1 := i64_mul ha.1 hb.1
  have h2 := i64_mul ha.2.1 hb.2.1
  have h3 := i64_mul ha.2.2 hb.2.2
  unfold P3.dot
  omega
theorem b129_mul {a b : Int} (ha : -255211775190703847597530955573826158592 ≤ a ∧ a ≤ 255211775190703847597530955573826158592) (hb : -255211775190703847597530955573826158592 ≤ b ∧ b ≤ 255211775190703847597530955573826158592) : Fit a ∧ Fit b ∧ Fit (a * b) := by
  have := bd_mul (A := 255211775190703847597530955573826158592) (B := 255211775190703847597530955573826158592) ha hb
  unfold Fit M511
  omega
set_option maxHeartbeats 16000000 in
theorem lagrange_law (a : P3) (ha : a.i64) (b : P3) (hb : b.i64) (w : World) : Calls Try.prog 8 #[PV a, PV b] w (Ret (.bool true) w) := by
  obtain ⟨bx, bY, bz⟩ := cross_i64_fit ha hb
  have hlag := lagrange a b
  obtain ⟨hl1, hl2⟩ := cross_along a b
  have C1 := Lib.hid (cross_any a b ha hb)
  have hc2 := cross_any b a hb ha
  rw [cross_turn a b] at hc2
  have D1 := Lib.hid (dot_any a b ha hb)
  have hd2 := dot_any b a hb ha
  rw [dot_turn a b] at hd2
  have DA := Lib.hid (dot_any a a ha ha)
  have DB := Lib.hid (dot_any b b hb hb)
  have hla := along_cross a b a ha hb ha
  have hlb := along_cross a b b ha hb hb
  rw [hl1] at hla
  rw [hl2] at hlb
  have SQ := Lib.hid (square_any (a.cross b) bx bY bz)
  have OP := Lib.hid (opp_any (a.cross b) bx bY bz)
  obtain ⟨f1, _, f2⟩ := b129_mul (dot_b129 ha hb) (dot_b129 ha hb)
  obtain ⟨f3, f4, f5⟩ := b129_mul (dot_b129 ha ha) (dot_b129 hb hb)
  have T1 := Lib.hid (ltimes_any _ _ f1 f1 f2)
  have T2 := Lib.hid (ltimes_any _ _ f3 f4 f5)
  have hsq : Fit ((a.cross b).dot (a.cross b)) := by
    have h1 := b128_mul (show B128 (a.cross b).x from bx) bx
    have h2 := b128_mul (show B128 (a.cross b).y from bY) bY
    have h3 := b128_mul (show B128 (a.cross b).z from bz) bz
    unfold P3.dot Fit M511
    omega
  have hpl := lplus_any ((a.cross b).dot (a.cross b)) (a.dot b * a.dot b) hsq f2 (by rw [hlag]; exact f5)
  rw [hlag] at hpl
  have S0 : Hid (∀ w, Calls Try.prog 22 #[W 0] w (Ret (.int .i64 0) w)) := Lib.hid (sign_any 0 fit_zero)
  clear bx bY bz hlag hl1 hl2 f1 f2 f3 f4 f5 hsq ha hb
  generalize (a.cross b).dot (a.cross b) = s at *
  generalize a.dot b = d at *
  generalize a.dot a = e at *
  generalize b.dot b = f at *
  generalize a.cross b = n at *
  generalize d * d = dd at *
  generalize e * f = ef at *
  have C2 := Lib.hid hc2
  have D2 := Lib.hid hd2
  have LA := Lib.hid hla
  have LB' := Lib.hid hlb
  have PL := Lib.hid hpl
  clear hc2 hd2 hla hlb hpl
  go_enter Try.func8, Try.ntmps8
  have hp := Hp.start [] w
  go_wp2_with (first
          | ((with_reducible apply sx_box hp); exact za rfl; exact rfl; clear hp; (try clear w1); intro g w1 hp; simp only [zp, zq, z0, z1])
          | ((with_reducible apply sx_alloc hp); infer_instance; exact rfl; clear hp; (try clear w1); intro g w1 hp; simp only [zp, zq, z0, z1])
          | ((with_reducible apply sx_load_agg hp); exact zt rfl; infer_instance; infer_instance; (first | exact zl rfl | exact LB_le (by omega)); (first | (with_reducible exact LB_set (by omega)) | (simp only [n0, Nat.reduceAdd, n1, n2, n3, n4, n5, n6, n7, n8, n9]; try rfl)); simp only [zp, zq, z0, z1])
          | ((with_reducible apply sx_store hp); exact zt rfl; exact za rfl; exact rfl; (first | exact AggTy.size | exact OneTy.size); exact rfl; infer_instance; (first | (with_reducible exact LB_set (by omega)) | (simp only [n0, Nat.reduceAdd, n1, n2, n3, n4, n5, n6, n7, n8, n9]; try rfl)); (first | exact zl rfl | exact LB_le (by omega)); exact rfl; infer_instance; clear hp; (try clear w1); intro w1 hp)
          | ((with_reducible first | refine sx_call hp (C1.out _) ?_ | refine sx_call hp (D1.out _) ?_); clear hp; (try clear w1); intro w1 hp))
  rename_i ga gb gn K hK
  obtain ⟨gd, rfl⟩ : ∃ k : Nat, k = g := ⟨_, rfl⟩
  go_cut [7] (fun s7 wx => ∃ g7, s7 = .pointer (some ⟨g7, 0, none⟩) ∧ Hp [] w [⟨g7, 25, [.int .u64 (lb (ef) 0), .int .u64 (lb (ef) 1), .int .u64 (lb (ef) 2), .int .u64 (lb (ef) 3), .int .u64 (lb (ef) 4), .int .u64 (lb (ef) 5), .int .u64 (lb (ef) 6), .int .u64 (lb (ef) 7)]⟩, ⟨gd, 25, [.int .u64 (lb (d) 0), .int .u64 (lb (d) 1), .int .u64 (lb (d) 2), .int .u64 (lb (d) 3), .int .u64 (lb (d) 4), .int .u64 (lb (d) 5), .int .u64 (lb (d) 6), .int .u64 (lb (d) 7)]⟩, ⟨gn, 27, [.int .u64 (lb (n.x) 0), .int .u64 (lb (n.x) 1), .int .u64 (lb (n.x) 2), .int .u64 (lb (n.x) 3), .int .u64 (lb (n.x) 4), .int .u64 (lb (n.x) 5), .int .u64 (lb (n.x) 6), .int .u64 (lb (n.x) 7), .int .u64 (lb (n.y) 0), .int .u64 (lb (n.y) 1), .int .u64 (lb (n.y) 2), .int .u64 (lb (n.y) 3), .int .u64 (lb (n.y) 4), .int .u64 (lb (n.y) 5), .int .u64 (lb (n.y) 6), .int .u64 (lb (n.y) 7), .int .u64 (lb (n.z) 0), .int .u64 (lb (n.z) 1), .int .u64 (lb (n.z) 2), .int .u64 (lb (n.z) 3), .int .u64 (lb (n.z) 4), .int .u64 (lb (n.z) 5), .int .u64 (lb (n.z) 6), .int .u64 (lb (n.z) 7)]⟩, ⟨gb, 29, [.int .i64 b.x, .int .i64 b.y, .int .i64 b.z]⟩, ⟨ga, 29, [.int .i64 a.x, .int .i64 a.y, .int .i64 a.z]⟩] wx)
  case first =>
    have hq := hp
    refine wp_drawn_hp hp hq [7] (.q 0 (.q 2 (.q 3 (.b2 1 (.b2 4 (.b2 5 (.l 6 (.l 7 .nil)) 6 (.l 5 (.l 7 .nil))) 6 (.l 4 (.l 5 (.l 7 .nil)))) 6 (.l 1 (.l 4 (.l 5 (.l 7 .nil)))))))) (by kernel_rfl) (by kernel_rfl) ?_
    clear hp hq; (try clear w1); intro w1 hp hq
    ((with_reducible apply sd_q); exact zo rfl)
    ((with_reducible apply sd_load_agg hp); exact rfl; exact zt rfl; infer_instance; infer_instance; (first | exact zl rfl | exact LB_le (by omega)); (first | (with_reducible exact LB_set (by omega)) | (simp only [n0, Nat.reduceAdd, n1, n2, n3, n4, n5, n6, n7, n8, n9]; try rfl)); simp only [zp, zq, z0, z1])
    ((with_reducible apply sd_q); exact zo rfl)
    ((with_reducible apply sd_load_agg hp); exact rfl; exact zt rfl; infer_instance; infer_instance; (first | exact zl rfl | exact LB_le (by omega)); (first | (with_reducible exact LB_set (by omega)) | (simp only [n0, Nat.reduceAdd, n1, n2, n3, n4, n5, n6, n7, n8, n9]; try rfl)); simp only [zp, zq, z0, z1])
    ((with_reducible apply sd_q); exact zo rfl)
    ((with_reducible apply sd_load_agg hp); exact rfl; exact zt rfl; infer_instance; infer_instance; (first | exact zl rfl | exact LB_le (by omega)); (first | (with_reducible exact LB_set (by omega)) | (simp only [n0, Nat.reduceAdd, n1, n2, n3, n4, n5, n6, n7, n8, n9]; try rfl)); simp only [zp, zq, z0, z1])
    (with_reducible apply sd_b2)
    · skip
      ((with_reducible apply sd_l); exact zo rfl)
      ((with_reducible apply sd_call hp); exact rfl; (focus (intro _; go_simp; try first | with_reducible rfl | exact ⟨rfl, rfl⟩)); (with_reducible first | exact fun w => SQ.out w | exact fun w => T1.out w | exact fun w => PL.out w); exact hq; clear hp hq; (try clear w1); intro w1 hp hq; simp only [zp, zq, z0, z1])
      (with_reducible apply sd_b2)
      · skip
        ((with_reducible apply sd_l); exact zo rfl)
        ((with_reducible apply sd_call hp); exact rfl; (focus (intro _; go_simp; try first | with_reducible rfl | exact ⟨rfl, rfl⟩)); (with_reducible first | exact fun w => SQ.out w | exact fun w => T1.out w | exact fun w => PL.out w); exact hq; clear hp hq; (try clear w1); intro w1 hp hq; simp only [zp, zq, z0, z1])
        (with_reducible apply sd_b2)
        · skip
          ((with_reducible apply sd_l); exact zo rfl)
          ((with_reducible apply sd_call hp); exact rfl; (focus (intro _; go_simp; try first | with_reducible rfl | exact ⟨rfl, rfl⟩)); (with_reducible first | exact fun w => SQ.out w | exact fun w => T1.out w | exact fun w => PL.out w); exact hq; clear hp hq; (try clear w1); intro w1 hp hq; simp only [zp, zq, z0, z1])
          ((with_reducible apply sd_l); exact zo rfl)
          ((with_reducible apply sd_alloc hq); (repeat (first | exact List.Sublist.refl _ | apply List.Sublist.cons)); exact rfl; infer_instance; exact rfl; clear hp hq; (try clear w1); intro g w1 hp hq; simp only [zp, zq, z0, z1])
          ((with_reducible apply sd_l); exact zo rfl)
          (first
      | ((with_reducible apply sd_store_far hq); exact rfl; exact zt rfl; exact za rfl; exact rfl; (first | exact AggTy.size | exact OneTy.size); exact rfl; infer_instance; (first | (with_reducible exact LB_set (by omega)) | (simp only [n0, Nat.reduceAdd, n1, n2, n3, n4, n5, n6, n7, n8, n9]; try rfl)); (first | exact zl rfl | exact LB_le (by omega)); exact rfl; infer_instance; (repeat (first | exact List.Sublist.refl _ | apply List.Sublist.cons)); clear hp hq; (try clear w1); intro w1 hp hq)
      | ((with_reducible apply sd_store hq); exact rfl; exact zt rfl; exact za rfl; exact rfl; (first | exact AggTy.size | exact OneTy.size); exact rfl; infer_instance; (first | (with_reducible exact LB_set (by omega)) | (simp only [n0, Nat.reduceAdd, n1, n2, n3, n4, n5, n6, n7, n8, n9]; try rfl)); (first | exact zl rfl | exact LB_le (by omega)); exact rfl; infer_instance; exact rfl; clear hp hq; (try clear w1); intro w1 hq; have hp := True.intro))
          (with_reducible apply sd_nil)
          clear hp; have hp := hq; clear hq
          (go_wp2_with fail; go_meet; exact ⟨_, rfl, hp⟩)
        · skip
          ((with_reducible apply sd_l); exact zo rfl)
          ((with_reducible apply sd_alloc hq); (repeat (first | exact List.Sublist.refl _ | apply List.Sublist.cons)); exact rfl; infer_instance; exact rfl; clear hp hq; (try clear w1); intro g w1 hp hq; simp only [zp, zq, z0, z1])
          ((with_reducible apply sd_l); exact zo rfl)
          ((with_reducible apply sd_call hp); exact rfl; (focus (intro _; go_simp; try first | with_reducible rfl | exact ⟨rfl, rfl⟩)); (with_reducible first | exact fun w => SQ.out w | exact fun w => T1.out w | exact fun w => PL.out w); exact hq; clear hp hq; (try clear w1); intro w1 hp hq; simp only [zp, zq, z0, z1])
          ((with_reducible apply sd_l); exact zo rfl)
          (first
      | ((with_reducible apply sd_store_far hq); exact rfl; exact zt rfl; exact za rfl; exact rfl; (first | exact AggTy.size | exact OneTy.size); exact rfl; infer_instance; (first | (with_reducible exact LB_set (by omega)) | (simp only [n0, Nat.reduceAdd, n1, n2, n3, n4, n5, n6, n7, n8, n9]; try rfl)); (first | exact zl rfl | exact LB_le (by omega)); exact rfl; infer_instance; (repeat (first | exact List.Sublist.refl _ | apply List.Sublist.cons)); clear hp hq; (try clear w1); intro w1 hp hq)
      | ((with_reducible apply sd_store hq); exact rfl; exact zt rfl; exact za rfl; exact rfl; (first | exact AggTy.size | exact OneTy.size); exact rfl; infer_instance; (first | (with_reducible exact LB_set (by omega)) | (simp only [n0, Nat.reduceAdd, n1, n2, n3, n4, n5, n6, n7, n8, n9]; try rfl)); (first | exact zl rfl | exact LB_le (by omega)); exact rfl; infer_instance; exact rfl; clear hp hq; (try clear w1); intro w1 hq; have hp := True.intro))
          (with_reducible apply sd_nil)
          clear hp; have hp := hq; clear hq
          (go_wp2_with fail; go_meet; exact ⟨_, rfl, hp⟩)
      · skip
        ((with_reducible apply sd_l); exact zo rfl)
        ((with_reducible apply sd_alloc hq); (repeat (first | exact List.Sublist.refl _ | apply List.Sublist.cons)); exact rfl; infer_instance; exact rfl; clear hp hq; (try clear w1); intro g w1 hp hq; simp only [zp, zq, z0, z1])
        ((with_reducible apply sd_l); exact zo rfl)
        ((with_reducible apply sd_call hp); exact rfl; (focus (intro _; go_simp; try first | with_reducible rfl | exact ⟨rfl, rfl⟩)); (with_reducible first | exact fun w => SQ.out w | exact fun w => T1.out w | exact fun w => PL.out w); exact hq; clear hp hq; (try clear w1); intro w1 hp hq; simp only [zp, zq, z0, z1])
        ((with_reducible apply sd_l); exact zo rfl)
        ((with_reducible apply sd_call hp); exact rfl; (focus (intro _; go_simp; try first | with_reducible rfl | exact ⟨rfl, rfl⟩)); (with_reducible first | exact fun w => SQ.out w | exact fun w => T1.out w | exact fun w => PL.out w); exact hq; clear hp hq; (try clear w1); intro w1 hp hq; simp only [zp, zq, z0, z1])
        ((with_reducible apply sd_l); exact zo rfl)
        (first
      | ((with_reducible apply sd_store_far hq); exact rfl; exact zt rfl; exact za rfl; exact rfl; (first | exact AggTy.size | exact OneTy.size); exact rfl; infer_instance; (first | (with_reducible exact LB_set (by omega)) | (simp only [n0, Nat.reduceAdd, n1, n2, n3, n4, n5, n6, n7, n8, n9]; try rfl)); (first | exact zl rfl | exact LB_le (by omega)); exact rfl; infer_instance; (repeat (first | exact List.Sublist.refl _ | apply List.Sublist.cons)); clear hp hq; (try clear w1); intro w1 hp hq)
      | ((with_reducible apply sd_store hq); exact rfl; exact zt rfl; exact za rfl; exact rfl; (first | exact AggTy.size | exact OneTy.size); exact rfl; infer_instance; (first | (with_reducible exact LB_set (by omega)) | (simp only [n0, Nat.reduceAdd, n1, n2, n3, n4, n5, n6, n7, n8, n9]; try rfl)); (first | exact zl rfl | exact LB_le (by omega)); exact rfl; infer_instance; exact rfl; clear hp hq; (try clear w1); intro w1 hq; have hp := True.intro))
        (with_reducible apply sd_nil)
        clear hp; have hp := hq; clear hq
        (go_wp2_with fail; go_meet; exact ⟨_, rfl, hp⟩)
    · skip
      ((with_reducible apply sd_l); exact zo rfl)
      ((with_reducible apply sd_alloc hq); (repeat (first | exact List.Sublist.refl _ | apply List.Sublist.cons)); exact rfl; infer_instance; exact rfl; clear hp hq; (try clear w1); intro g w1 hp hq; simp only [zp, zq, z0, z1])
      ((with_reducible apply sd_l); exact zo rfl)
      ((with_reducible apply sd_call hp); exact rfl; (focus (intro _; go_simp; try first | with_reducible rfl | exact ⟨rfl, rfl⟩)); (with_reducible first | exact fun w => SQ.out w | exact fun w => T1.out w | exact fun w => PL.out w); exact hq; clear hp hq; (try clear w1); intro w1 hp hq; simp only [zp, zq, z0, z1])
      ((with_reducible apply sd_l); exact zo rfl)
      ((with_reducible apply sd_call hp); exact rfl; (focus (intro _; go_simp; try first | with_reducible rfl | exact ⟨rfl, rfl⟩)); (with_reducible first | exact fun w => SQ.out w | exact fun w => T1.out w | exact fun w => PL.out w); exact hq; clear hp hq; (try clear w1); intro w1 hp hq; simp only [zp, zq, z0, z1])
      ((with_reducible apply sd_l); exact zo rfl)
      ((with_reducible apply sd_call hp); exact rfl; (focus (intro _; go_simp; try first | with_reducible rfl | exact ⟨rfl, rfl⟩)); (with_reducible first | exact fun w => SQ.out w | exact fun w => T1.out w | exact fun w => PL.out w); exact hq; clear hp hq; (try clear w1); intro w1 hp hq; simp only [zp, zq, z0, z1])
      ((with_reducible apply sd_l); exact zo rfl)
      (first
      | ((with_reducible apply sd_store_far hq); exact rfl; exact zt rfl; exact za rfl; exact rfl; (first | exact AggTy.size | exact OneTy.size); exact rfl; infer_instance; (first | (with_reducible exact LB_set (by omega)) | (simp only [n0, Nat.reduceAdd, n1, n2, n3, n4, n5, n6, n7, n8, n9]; try rfl)); (first | exact zl rfl | exact LB_le (by omega)); exact rfl; infer_instance; (repeat (first | exact List.Sublist.refl _ | apply List.Sublist.cons)); clear hp hq; (try clear w1); intro w1 hp hq)
      | ((with_reducible apply sd_store hq); exact rfl; exact zt rfl; exact za rfl; exact rfl; (first | exact AggTy.size | exact OneTy.size); exact rfl; infer_instance; (first | (with_reducible exact LB_set (by omega)) | (simp only [n0, Nat.reduceAdd, n1, n2, n3, n4, n5, n6, n7, n8, n9]; try rfl)); (first | exact zl rfl | exact LB_le (by omega)); exact rfl; infer_instance; exact rfl; clear hp hq; (try clear w1); intro w1 hq; have hp := True.intro))
      (with_reducible apply sd_nil)
      clear hp; have hp := hq; clear hq
      (go_wp2_with fail; go_meet; exact ⟨_, rfl, hp⟩)
  case rest =>
    clear hp
    obtain ⟨g7, rfl, hp⟩ := hcut
    go_wp2_with (first
          | ((with_reducible apply sx_box hp); exact za rfl; exact rfl; clear hp; (try clear w1); intro g w1 hp; simp only [zp, zq, z0, z1])
          | ((with_reducible apply sx_alloc hp); infer_instance; exact rfl; clear hp; (try clear w1); intro g w1 hp; simp only [zp, zq, z0, z1])
          | ((with_reducible apply sx_load_agg hp); exact zt rfl; infer_instance; infer_instance; (first | exact zl rfl | exact LB_le (by omega)); (first | (with_reducible exact LB_set (by omega)) | (simp only [n0, Nat.reduceAdd, n1, n2, n3, n4, n5, n6, n7, n8, n9]; try rfl)); simp only [zp, zq, z0, z1])
          | ((with_reducible apply sx_store hp); exact zt rfl; exact za rfl; exact rfl; (first | exact AggTy.size | exact OneTy.size); exact rfl; infer_instance; (first | (with_reducible exact LB_set (by omega)) | (simp only [n0, Nat.reduceAdd, n1, n2, n3, n4, n5, n6, n7, n8, n9]; try rfl)); (first | exact zl rfl | exact LB_le (by omega)); exact rfl; infer_instance; clear hp; (try clear w1); intro w1 hp)
          | ((with_reducible first | refine sx_call hp (LA.out _) ?_ | refine sx_call hp (LB'.out _) ?_); clear hp; (try clear w1); intro w1 hp))
    have hq := hp
    refine wp_drawn_hp hp hq [] (.q 0 (.q 1 (.q 2 (.q 4 (.q 5 (.l 3 (.l 6 (.l 7 (.q 8 (.q 9 (.q 10 (.q 11 (.q 12 (.q 13 (.q 14 (.q 15 (.q 16 (.l 17 (.q 18 (.q 19 (.q 20 (.q 21 (.l 22 (.q 23 (.q 24 (.q 25 (.q 26 (.q 27 (.q 29 (.l 28 (.l 30 (.q 31 (.q 32 (.q 33 (.q 34 (.q 35 (.q 36 (.l 37 (.q 38 (.q 39 (.q 40 (.l 41 (.q 42 (.q 43 .nil)))))))))))))))))))))))))))))))))))))))))))) (by kernel_rfl) (by kernel_rfl) ?_
    clear hp hq; (try clear w1); intro w1 hp hq
    ((with_reducible apply sd_q); exact zo rfl)
    ((with_reducible apply sd_load_agg hp); exact rfl; exact zt rfl; infer_instance; infer_instance; (first | exact zl rfl | exact LB_le (by omega)); (first | (with_reducible exact LB_set (by omega)) | (simp only [n0, Nat.reduceAdd, n1, n2, n3, n4, n5, n6, n7, n8, n9]; try rfl)); simp only [zp, zq, z0, z1])
    ((with_reducible apply sd_q); exact zo rfl)
    ((with_reducible apply sd_load_agg hp); exact rfl; exact zt rfl; infer_instance; infer_instance; (first | exact zl rfl | exact LB_le (by omega)); (first | (with_reducible exact LB_set (by omega)) | (simp only [n0, Nat.reduceAdd, n1, n2, n3, n4, n5, n6, n7, n8, n9]; try rfl)); simp only [zp, zq, z0, z1])
    ((with_reducible apply sd_q); exact zo rfl)
    ((with_reducible apply sd_load_agg hp); exact rfl; exact zt rfl; infer_instance; infer_instance; (first | exact zl rfl | exact LB_le (by omega)); (first | (with_reducible exact LB_set (by omega)) | (simp only [n0, Nat.reduceAdd, n1, n2, n3, n4, n5, n6, n7, n8, n9]; try rfl)); simp only [zp, zq, z0, z1])
    ((with_reducible apply sd_q); exact zo rfl)
    ((with_reducible apply sd_load_agg hp); exact rfl; exact zt rfl; infer_instance; infer_instance; (first | exact zl rfl | exact LB_le (by omega)); (first | (with_reducible exact LB_set (by omega)) | (simp only [n0, Nat.reduceAdd, n1, n2, n3, n4, n5, n6, n7, n8, n9]; try rfl)); simp only [zp, zq, z0, z1])
    ((with_reducible apply sd_q); exact zo rfl)
    ((with_reducible apply sd_load_agg hp); exact rfl; exact zt rfl; infer_instance; infer_instance; (first | exact zl rfl | exact LB_le (by omega)); (first | (with_reducible exact LB_set (by omega)) | (simp only [n0, Nat.reduceAdd, n1, n2, n3, n4, n5, n6, n7, n8, n9]; try rfl)); simp only [zp, zq, z0, z1])
    ((with_reducible apply sd_l); exact zo rfl)
    ((with_reducible apply sd_call hp); exact rfl; (focus (intro _; go_simp; try first | with_reducible rfl | exact ⟨rfl, rfl⟩)); (with_reducible first | exact fun w => DA.out w | exact fun w => DB.out w | exact fun w => T2.out w | exact fun w => S0.out w | exact fun w => C2.out w | exact fun w => OP.out w | exact fun w => D2.out w | exact fun w => awake6 w); exact hq; clear hp hq; (try clear w1); intro w1 hp hq; simp only [zp, zq, z0, z1])
    ((with_reducible apply sd_l); exact zo rfl)
    ((with_reducible apply sd_call hp); exact rfl; (focus (intro _; go_simp; try first | with_reducible rfl | exact ⟨rfl, rfl⟩)); (with_reducible first | exact fun w => DA.out w | exact fun w => DB.out w | exact fun w => T2.out w | exact fun w => S0.out w | exact fun w => C2.out w | exact fun w => OP.out w | exact fun w => D2.out w | exact fun w => awake6 w); exact hq; clear hp hq; (try clear w1); intro w1 hp hq; simp only [zp, zq, z0, z1])
    ((with_reducible apply sd_l); exact zo rfl)
    ((with_reducible apply sd_call hp); exact rfl; (focus (intro _; go_simp; try first | with_reducible rfl | exact ⟨rfl, rfl⟩)); (with_reducible first | exact fun w => DA.out w | exact fun w => DB.out w | exact fun w => T2.out w | exact fun w => S0.out w | exact fun w => C2.out w | exact fun w => OP.out w | exact fun w => D2.out w | exact fun w => awake6 w); exact hq; clear hp hq; (try clear w1); intro w1 hp hq; simp only [zp, zq, z0, z1])
    ((with_reducible apply sd_q); exact zo rfl)
    ((with_reducible apply sd_pure hp); exact rfl; (focus (intro _; go_simp; (try go_ints); try with_reducible rfl)); simp only [zp, zq, z0, z1])
    ((with_reducible apply sd_q); exact zo rfl)
    ((with_reducible apply sd_move hp); exact zb rfl; simp only [zp, zq, z0, z1])
    ((with_reducible apply sd_q); exact zo rfl)
    (first
      | ((with_reducible apply sd_pure hp); exact rfl; (focus (intro _; go_simp; (try go_ints); try with_reducible rfl)); simp only [zp, zq, z0, z1])
      | ((with_reducible apply sd_skip hp); exact rfl; simp only [zp, zq, z0, z1]))
    ((with_reducible apply sd_q); exact zo rfl)
    ((with_reducible apply sd_pure hp); exact rfl; (focus (intro _; go_simp; (try go_ints); try with_reducible rfl)); simp only [zp, zq, z0, z1])
    ((with_reducible apply sd_q); exact zo rfl)
    ((with_reducible apply sd_move hp); exact zb rfl; simp only [zp, zq, z0, z1])
    ((with_reducible apply sd_q); exact zo rfl)
    (first
      | ((with_reducible apply sd_pure hp); exact rfl; (focus (intro _; go_simp; (try go_ints); try with_reducible rfl)); simp only [zp, zq, z0, z1])
      | ((with_reducible apply sd_skip hp); exact rfl; simp only [zp, zq, z0, z1]))
    ((with_reducible apply sd_q); exact zo rfl)
    ((with_reducible apply sd_pure hp); exact rfl; (focus (intro _; go_simp; (try go_ints); try with_reducible rfl)); simp only [zp, zq, z0, z1])
    ((with_reducible apply sd_q); exact zo rfl)
    ((with_reducible apply sd_move hp); exact zb rfl; simp only [zp, zq, z0, z1])
    ((with_reducible apply sd_q); exact zo rfl)
    (first
      | ((with_reducible apply sd_load_agg hp); exact rfl; exact zt rfl; infer_instance; infer_instance; (first | exact zl rfl | exact LB_le (by omega)); (first | (with_reducible exact LB_set (by omega)) | (simp only [n0, Nat.reduceAdd, n1, n2, n3, n4, n5, n6, n7, n8, n9]; try rfl)); simp only [zp, zq, z0, z1])
      | ((with_reducible apply sd_skip hp); exact rfl; simp only [zp, zq, z0, z1]))
    ((with_reducible apply sd_l); exact zo rfl)
    (first
      | ((with_reducible apply sd_call hp); exact rfl; (focus (intro _; go_simp; try first | with_reducible rfl | exact ⟨rfl, rfl⟩)); (with_reducible first | exact fun w => DA.out w | exact fun w => DB.out w | exact fun w => T2.out w | exact fun w => S0.out w | exact fun w => C2.out w | exact fun w => OP.out w | exact fun w => D2.out w | exact fun w => awake6 w); exact hq; clear hp hq; (try clear w1); intro w1 hp hq; simp only [zp, zq, z0, z1])
      | ((with_reducible apply sd_skip_loud hp); exact rfl; simp only [zp, zq, z0, z1]))
    ((with_reducible apply sd_q); exact zo rfl)
    (first
      | ((with_reducible apply sd_pure hp); exact rfl; (focus (intro _; go_simp; (try go_ints); try with_reducible rfl)); simp only [zp, zq, z0, z1])
      | ((with_reducible apply sd_skip hp); exact rfl; simp only [zp, zq, z0, z1]))
    ((with_reducible apply sd_q); exact zo rfl)
    ((with_reducible apply sd_pure hp); exact rfl; (focus (intro _; go_simp; (try go_ints); try with_reducible rfl)); simp only [zp, zq, z0, z1])
    ((with_reducible apply sd_q); exact zo rfl)
    ((with_reducible apply sd_move hp); exact zb rfl; simp only [zp, zq, z0, z1])
    ((with_reducible apply sd_q); exact zo rfl)
    (first
      | ((with_reducible apply sd_load_agg hp); exact rfl; exact zt rfl; infer_instance; infer_instance; (first | exact zl rfl | exact LB_le (by omega)); (first | (with_reducible exact LB_set (by omega)) | (simp only [n0, Nat.reduceAdd, n1, n2, n3, n4, n5, n6, n7, n8, n9]; try rfl)); simp only [zp, zq, z0, z1])
      | ((with_reducible apply sd_skip hp); exact rfl; simp only [zp, zq, z0, z1]))
    ((with_reducible apply sd_l); exact zo rfl)
    (first
      | ((with_reducible apply sd_call hp); exact rfl; (focus (intro _; go_simp; try first | with_reducible rfl | exact ⟨rfl, rfl⟩)); (with_reducible first | exact fun w => DA.out w | exact fun w => DB.out w | exact fun w => T2.out w | exact fun w => S0.out w | exact fun w => C2.out w | exact fun w => OP.out w | exact fun w => D2.out w | exact fun w => awake6 w); exact hq; clear hp hq; (try clear w1); intro w1 hp hq; simp only [zp, zq, z0, z1])
      | ((with_reducible apply sd_skip_loud hp); exact rfl; simp only [zp, zq, z0, z1]))
    ((with_reducible apply sd_q); exact zo rfl)
    (first
      | ((with_reducible apply sd_pure hp); exact rfl; (focus (intro _; go_simp; (try go_ints); try with_reducible rfl)); simp only [zp, zq, z0, z1])
      | ((with_reducible apply sd_skip hp); exact rfl; simp only [zp, zq, z0, z1]))
    ((with_reducible apply sd_q); exact zo rfl)
    ((with_reducible apply sd_pure hp); exact rfl; (focus (intro _; go_simp; (try go_ints); try with_reducible rfl)); simp only [zp, zq, z0, z1])
    ((with_reducible apply sd_q); exact zo rfl)
    ((with_reducible apply sd_move hp); exact zb rfl; simp only [zp, zq, z0, z1])
    ((with_reducible apply sd_q); exact zo rfl)
    (first
      | ((with_reducible apply sd_load_agg hp); exact rfl; exact zt rfl; infer_instance; infer_instance; (first | exact zl rfl | exact LB_le (by omega)); (first | (with_reducible exact LB_set (by omega)) | (simp only [n0, Nat.reduceAdd, n1, n2, n3, n4, n5, n6, n7, n8, n9]; try rfl)); simp only [zp, zq, z0, z1])
      | ((with_reducible apply sd_skip hp); exact rfl; simp only [zp, zq, z0, z1]))
    ((with_reducible apply sd_q); exact zo rfl)
    (first
      | ((with_reducible apply sd_load_agg hp); exact rfl; exact zt rfl; infer_instance; infer_instance; (first | exact zl rfl | exact LB_le (by omega)); (first | (with_reducible exact LB_set (by omega)) | (simp only [n0, Nat.reduceAdd, n1, n2, n3, n4, n5, n6, n7, n8, n9]; try rfl)); simp only [zp, zq, z0, z1])
      | ((with_reducible apply sd_skip hp); exact rfl; simp only [zp, zq, z0, z1]))
    ((with_reducible apply sd_q); exact zo rfl)
    (first
      | ((with_reducible apply sd_load_agg hp); exact rfl; exact zt rfl; infer_instance; infer_instance; (first | exact zl rfl | exact LB_le (by omega)); (first | (with_reducible exact LB_set (by omega)) | (simp only [n0, Nat.reduceAdd, n1, n2, n3, n4, n5, n6, n7, n8, n9]; try rfl)); simp only [zp, zq, z0, z1])
      | ((with_reducible apply sd_skip hp); exact rfl; simp only [zp, zq, z0, z1]))
    ((with_reducible apply sd_l); exact zo rfl)
    (first
      | ((with_reducible apply sd_call hp); exact rfl; (focus (intro _; go_simp; try first | with_reducible rfl | exact ⟨rfl, rfl⟩)); (with_reducible first | exact fun w => DA.out w | exact fun w => DB.out w | exact fun w => T2.out w | exact fun w => S0.out w | exact fun w => C2.out w | exact fun w => OP.out w | exact fun w => D2.out w | exact fun w => awake6 w); exact hq; clear hp hq; (try clear w1); intro w1 hp hq; simp only [zp, zq, z0, z1])
      | ((with_reducible apply sd_skip_loud hp); exact rfl; simp only [zp, zq, z0, z1]))
    ((with_reducible apply sd_l); exact zo rfl)
    (first
      | ((with_reducible apply sd_call hp); exact rfl; (focus (intro _; go_simp; try first | with_reducible rfl | exact ⟨rfl, rfl⟩)); (with_reducible first | exact fun w => DA.out w | exact fun w => DB.out w | exact fun w => T2.out w | exact fun w => S0.out w | exact fun w => C2.out w | exact fun w => OP.out w | exact fun w => D2.out w | exact fun w => awake6 w); exact hq; clear hp hq; (try clear w1); intro w1 hp hq; simp only [zp, zq, z0, z1])
      | ((with_reducible apply sd_skip_loud hp); exact rfl; simp only [zp, zq, z0, z1]))
    ((with_reducible apply sd_q); exact zo rfl)
    (first
      | ((with_reducible apply sd_pure hp); exact rfl; (focus (intro _; go_simp; (try go_ints); try with_reducible rfl)); simp only [zp, zq, z0, z1])
      | ((with_reducible apply sd_skip hp); exact rfl; simp only [zp, zq, z0, z1]))
    ((with_reducible apply sd_q); exact zo rfl)
    ((with_reducible apply sd_pure hp); exact rfl; (focus (intro _; go_simp; (try go_ints); try with_reducible rfl)); simp only [zp, zq, z0, z1])
    ((with_reducible apply sd_q); exact zo rfl)
    ((with_reducible apply sd_move hp); exact zb rfl; simp only [zp, zq, z0, z1])
    ((with_reducible apply sd_q); exact zo rfl)
    (first
      | ((with_reducible apply sd_load_agg hp); exact rfl; exact zt rfl; infer_instance; infer_instance; (first | exact zl rfl | exact LB_le (by omega)); (first | (with_reducible exact LB_set (by omega)) | (simp only [n0, Nat.reduceAdd, n1, n2, n3, n4, n5, n6, n7, n8, n9]; try rfl)); simp only [zp, zq, z0, z1])
      | ((with_reducible apply sd_skip hp); exact rfl; simp only [zp, zq, z0, z1]))
    ((with_reducible apply sd_q); exact zo rfl)
    (first
      | ((with_reducible apply sd_load_agg hp); exact rfl; exact zt rfl; infer_instance; infer_instance; (first | exact zl rfl | exact LB_le (by omega)); (first | (with_reducible exact LB_set (by omega)) | (simp only [n0, Nat.reduceAdd, n1, n2, n3, n4, n5, n6, n7, n8, n9]; try rfl)); simp only [zp, zq, z0, z1])
      | ((with_reducible apply sd_skip hp); exact rfl; simp only [zp, zq, z0, z1]))
    ((with_reducible apply sd_q); exact zo rfl)
    (first
      | ((with_reducible apply sd_load_agg hp); exact rfl; exact zt rfl; infer_instance; infer_instance; (first | exact zl rfl | exact LB_le (by omega)); (first | (with_reducible exact LB_set (by omega)) | (simp only [n0, Nat.reduceAdd, n1, n2, n3, n4, n5, n6, n7, n8, n9]; try rfl)); simp only [zp, zq, z0, z1])
      | ((with_reducible apply sd_skip hp); exact rfl; simp only [zp, zq, z0, z1]))
    ((with_reducible apply sd_l); exact zo rfl)
    (first
      | ((with_reducible apply sd_call hp); exact rfl; (focus (intro _; go_simp; try first | with_reducible rfl | exact ⟨rfl, rfl⟩)); (with_reducible first | exact fun w => DA.out w | exact fun w => DB.out w | exact fun w => T2.out w | exact fun w => S0.out w | exact fun w => C2.out w | exact fun w => OP.out w | exact fun w => D2.out w | exact fun w => awake6 w); exact hq; clear hp hq; (try clear w1); intro w1 hp hq; simp only [zp, zq, z0, z1])
      | ((with_reducible apply sd_skip_loud hp); exact rfl; simp only [zp, zq, z0, z1]))
    ((with_reducible apply sd_q); exact zo rfl)
    (first
      | ((with_reducible apply sd_pure hp); exact rfl; (focus (intro _; go_simp; (try go_ints); try with_reducible rfl)); simp only [zp, zq, z0, z1])
      | ((with_reducible apply sd_skip hp); exact rfl; simp only [zp, zq, z0, z1]))
    ((with_reducible apply sd_q); exact zo rfl)
    ((with_reducible apply sd_pure hp); exact rfl; (focus (intro _; go_simp; (try go_ints); try with_reducible rfl)); simp only [zp, zq, z0, z1])
    ((with_reducible apply sd_q); exact zo rfl)
    ((with_reducible apply sd_move hp); exact zb rfl; simp only [zp, zq, z0, z1])
    ((with_reducible apply sd_l); exact zo rfl)
    (first
      | ((with_reducible apply sd_call hp); exact rfl; (focus (intro _; go_simp; try first | with_reducible rfl | exact ⟨rfl, rfl⟩)); (with_reducible first | exact fun w => DA.out w | exact fun w => DB.out w | exact fun w => T2.out w | exact fun w => S0.out w | exact fun w => C2.out w | exact fun w => OP.out w | exact fun w => D2.out w | exact fun w => awake6 w); exact hq; clear hp hq; (try clear w1); intro w1 hp hq; simp only [zp, zq, z0, z1])
      | ((with_reducible apply sd_skip_loud hp); exact rfl; simp only [zp, zq, z0, z1]))
    ((with_reducible apply sd_q); exact zo rfl)
    ((with_reducible apply sd_pure hp); exact rfl; (focus (intro _; go_simp; (try go_ints); try with_reducible rfl)); simp only [zp, zq, z0, z1])
    ((with_reducible apply sd_q); exact zo rfl)
    ((with_reducible apply sd_assign hp); exact zb rfl; simp only [zp, zq, z0, z1])
    (with_reducible apply sd_nil)
    clear hp; have hp := hq; clear hq
    go_wp2
    exact bodyPost_ret (results_one rfl rfl) rfl ⟨rfl, hp.keep⟩
end Go.Proofs.Ytbhlnbllkoomfaa
