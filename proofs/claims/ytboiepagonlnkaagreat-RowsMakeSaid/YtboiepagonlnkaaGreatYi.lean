/-
  Package ninepinref22: least, axis, Frame; ninepinlaw22.RowsFrame (contracts).
-/
import Derived.Test.YtboiepagonlnkaaGreatYh
set_option linter.unusedSimpArgs false
set_option linter.unusedVariables false
set_option maxRecDepth 100000
namespace Go.Proofs.YtboiepagonlnkaaGreat
open Go Go.RowKit
attribute [local irreducible] wpList

theorem sq_le {a b : Int} : sgn (a * a - b * b) ≤ 0 ↔ a.natAbs ≤ b.natAbs := by
  have e : ∀ x : Int, x * x = ((x.natAbs * x.natAbs : Nat) : Int) := fun x => by rw [Int.natAbs_mul_self]
  have h1 : sgn (a * a - b * b) ≤ 0 ↔ a * a ≤ b * b := by
    unfold sgn
    split
    · omega
    · split <;> omega
  rw [h1, e a, e b]
  constructor
  · intro h
    rcases Nat.lt_or_ge b.natAbs a.natAbs with hh | hh
    · have := Nat.mul_lt_mul_of_lt_of_lt hh hh
      omega
    · exact hh
  · intro h
    have := Nat.mul_le_mul h h
    omega
set_option maxHeartbeats 2000000 in
theorem rleast_row (a b : Int) (ha : I64 a) (hb : I64 b) (w : World) : Calls Tryz.prog 56 #[.int .i64 a, .int .i64 b] w (Ret (.bool (decide (a.natAbs ≤ b.natAbs))) w) := by
  have A1 := Lib.hid (r3raw_any a ha)
  have A2 := Lib.hid (r3raw_any b hb)
  have T1 := Lib.hid (rtimes_i64 a a ha ha)
  have T2 := Lib.hid (rtimes_i64 b b hb hb)
  have f1 := i64_mul ha ha
  have f2 := i64_mul hb hb
  have C1 := Lib.hid fun w => rcmp1_any (a * a) (b * b) (by unfold Fit M511; omega) (by unfold Fit M511; omega) w
  rw [show decide (a.natAbs ≤ b.natAbs) = decide (sgn (a * a - b * b) ≤ 0) by rw [decide_eq_decide]; exact sq_le.symm]
  clear ha hb f1 f2
  generalize sgn (a * a - b * b) = s at *
  generalize a * a = x at *
  generalize b * b = y at *
  go_enter Tryz.func56, Tryz.ntmps56
  have hp := Hp.start [] w
  go_wp2_with (first
          | ((with_reducible apply sx_alloc hp); infer_instance; exact rfl; clear hp; (try clear w1); intro g w1 hp; simp only [zp, zq, z0, z1])
          | ((with_reducible apply sx_load_agg hp); exact zt rfl; infer_instance; infer_instance; (first | exact zl rfl | exact LB_le (by omega)); (first | (with_reducible exact LB_set (by omega)) | (simp only [n0, Nat.reduceAdd, n1, n2, n3, n4, n5, n6, n7, n8, n9]; try rfl)); simp only [zp, zq, z0, z1])
          | ((with_reducible apply sx_store hp); exact zt rfl; exact za rfl; exact rfl; (first | exact AggTy.size | exact OneTy.size); exact rfl; infer_instance; (first | (with_reducible exact LB_set (by omega)) | (simp only [n0, Nat.reduceAdd, n1, n2, n3, n4, n5, n6, n7, n8, n9]; try rfl)); (first | exact zl rfl | exact LB_le (by omega)); exact rfl; infer_instance; clear hp; (try clear w1); intro w1 hp)
          | ((with_reducible first | refine sx_call hp (A1.out _) ?_ | refine sx_call hp (A2.out _) ?_ | refine sx_call hp (T1.out _) ?_ | refine sx_call hp (T2.out _) ?_ | refine sx_call hp (C1.out _) ?_); clear hp; (try clear w1); intro w1 hp))
  exact bodyPost_ret (results_one rfl rfl) rfl ⟨rfl, hp.keep⟩
set_option maxHeartbeats 2000000 in
theorem raxis_core (x y u : Int) (p q r : Bool) (V : P3)
    (L1 : Hid (∀ w, Calls Tryz.prog 56 #[.int .i64 x, .int .i64 y] w (Ret (.bool p) w)))
    (L2 : Hid (∀ w, Calls Tryz.prog 56 #[.int .i64 x, .int .i64 u] w (Ret (.bool q) w)))
    (L3 : Hid (∀ w, Calls Tryz.prog 56 #[.int .i64 y, .int .i64 u] w (Ret (.bool r) w)))
    (HV : V = if (p && q) = true then ⟨4294967296, 0, 0⟩ else if r = true then ⟨0, 4294967296, 0⟩ else ⟨0, 0, 4294967296⟩) (w : World) :
    Calls Tryz.prog 22 #[PV ⟨x, y, u⟩] w (Ret (PV V) w) := by
  cases p <;> cases q <;> cases r <;> (obtain rfl := HV)
  all_goals
    skip
    go_enter Tryz.func22, Tryz.ntmps22
    have hp := Hp.start [] w
    go_wp2_with (first
          | ((with_reducible apply sx_guard); (conv => whnf); refine Bx.mk ?_; (try simp only [zp, zq, z0, z1]))
          | ((with_reducible apply sx_box hp); exact za rfl; exact rfl; clear hp; (try clear w1); intro g w1 hp; simp only [zp, zq, z0, z1])
          | ((with_reducible apply sx_alloc hp); infer_instance; exact rfl; clear hp; (try clear w1); intro g w1 hp; simp only [zp, zq, z0, z1])
          | ((with_reducible apply sx_load_one hp); exact zt rfl; infer_instance; infer_instance; (first | exact zio rfl | exact LB_get (by omega)); simp only [zp, zq, z0, z1])
          | ((with_reducible apply sx_store hp); exact zt rfl; exact za rfl; exact rfl; (first | exact AggTy.size | exact OneTy.size); exact rfl; infer_instance; (first | (with_reducible exact LB_set (by omega)) | (simp only [n0, Nat.reduceAdd, n1, n2, n3, n4, n5, n6, n7, n8, n9]; try rfl)); (first | exact zl rfl | exact LB_le (by omega)); exact rfl; infer_instance; clear hp; (try clear w1); intro w1 hp)
          | ((with_reducible first | refine sx_call hp (L1.out _) ?_ | refine sx_call hp (L2.out _) ?_ | refine sx_call hp (L3.out _) ?_); clear hp; (try clear w1); intro w1 hp))
    exact bodyPost_ret (results_one rfl ⟨_, rfl, run_load_agg hp (Nat.le_of_ble_eq_true rfl)⟩) rfl ⟨rfl, hp.keep⟩
theorem raxis_any (n : P3) (hn : n.i64) (w : World) : Calls Tryz.prog 22 #[PV n] w (Ret (PV (axv n)) w) := by
  obtain ⟨x, y, u⟩ := n
  obtain ⟨hx, hy, hu⟩ := hn
  refine raxis_core x y u _ _ _ _ (Lib.hid (rleast_row x y hx hy)) (Lib.hid (rleast_row x u hx hu)) (Lib.hid (rleast_row y u hy hu)) ?_ w
  unfold axv
  simp only [Bool.and_eq_true, decide_eq_true_eq]
set_option maxHeartbeats 4000000 in
theorem rframe_any (n : P3) (hn : n.i64) (w : World) : Calls Tryz.prog 7 #[PV n] w (Ret (.tuple #[PV (frO n).1, PV (frO n).2.1, .int .i64 (frO n).2.2]) w) := by
  have AX := Lib.hid (raxis_any n hn)
  have CR := Lib.hid (r3cross_any n (axv n) hn (axv_i64 n))
  have U1 := r3unit_any (n.ccross (axv n)) (ccr_i64 _ _)
  have C2 := Lib.hid (r3cross_any n (n.ccross (axv n)).cunit hn (cun_i64 _))
  unfold frO
  unfold unitV at U1
  by_cases h0 : (n.ccross (axv n)).x = 0 ∧ (n.ccross (axv n)).y = 0 ∧ (n.ccross (axv n)).z = 0
  · rw [if_pos h0]
    simp only [if_pos h0] at U1
    have UN := Lib.hid U1
    clear U1 C2 h0 hn
    generalize n.ccross (axv n) = c at *
    generalize axv n = x at *
    go_enter Tryz.func7, Tryz.ntmps7
    have hp := Hp.start [] w
    go_upto_region 1 with (first
          | ((with_reducible apply sx_box hp); (first | exact za rfl | exact zu rfl | exact zi rfl | exact zb rfl | exact zr rfl | exact zs rfl | exact zf rfl | exact zg rfl | exact zn rfl | exact zv rfl | exact zw rfl); exact rfl; clear hp; (try clear w1); intro g w1 hp; simp only [zp, zq, z0, z1])
          | ((with_reducible apply sx_alloc hp); infer_instance; exact rfl; clear hp; (try clear w1); intro g w1 hp; simp only [zp, zq, z0, z1]))
    have hq := hp
    refine wp_drawnG_hp hp hq [] (.q 0 (.q 1 (.p 2 (.p 3 (.p 4 (.q 5 (.q 6 (.q 7 (.l 8 (.l 9 (.q 10 .nil))))))))))) (by kernel_rfl) (by kernel_rfl) ?_
    clear hp hq; (try clear w1); intro w1 hp hq
    repeat' (first
      | (((with_reducible apply sg_q); exact zo rfl); (first
          | ((with_reducible apply sg_load_agg hp); exact rfl; exact zt rfl; infer_instance; infer_instance; (first | exact zl rfl | exact LB_le (by omega)); (first | (with_reducible exact LB_set (by omega)) | (simp only [n0, Nat.reduceAdd, n1, n2, n3, n4, n5, n6, n7, n8, n9]; try rfl)); simp only [zp, zq, z0, z1])
          | ((with_reducible apply sg_move hp); exact zu rfl; simp only [zp, zq, z0, z1])
          | ((with_reducible apply sg_assign hp); exact zb rfl; simp only [zp, zq, z0, z1])
          | ((with_reducible apply sg_pure hp); exact rfl; (focus (intro _; go_simp; (try go_ints); try with_reducible rfl)); simp only [zp, zq, z0, z1])))
      | (((with_reducible apply sg_p); exact zo rfl); ((with_reducible apply sg_call hp); exact rfl; (focus (intro _; go_simp; try first | with_reducible rfl | exact ⟨rfl, rfl⟩)); (with_reducible first | exact fun w => AX.out w | exact fun w => CR.out w | exact fun w => UN.out w); simp only [zp, zq, z0, z1]))
      | (((with_reducible apply sg_l); exact zo rfl); (first
          | ((with_reducible apply sg_alloc hq); (repeat (first | exact List.Sublist.refl _ | exact List.nil_sublist _ | apply List.Sublist.cons_cons | apply List.Sublist.cons)); exact rfl; infer_instance; exact rfl; clear hp hq; (try clear w1); intro g w1 hp hq; simp only [zp, zq, z0, z1])
          | ((with_reducible apply sg_store_far hq); exact rfl; exact zt rfl; (first | exact za rfl | exact zu rfl | exact zi rfl | exact zb rfl | exact zr rfl | exact zs rfl | exact zf rfl | exact zg rfl | exact zn rfl | exact zv rfl | exact zw rfl); exact rfl; (first | exact AggTy.size | exact OneTy.size); exact rfl; infer_instance; (first | (with_reducible exact LB_set (by omega)) | (simp only [n0, Nat.reduceAdd, n1, n2, n3, n4, n5, n6, n7, n8, n9]; try rfl)); (first | exact zl rfl | exact LB_le (by omega)); exact rfl; infer_instance; (repeat (first | exact List.Sublist.refl _ | exact List.nil_sublist _ | apply List.Sublist.cons_cons | apply List.Sublist.cons)); clear hp hq; (try clear w1); intro w1 hp hq)))
      | ((with_reducible apply sg_nil hq); clear hp hq; (try clear w1); intro w1 hp))
    go_wp2_with (first
          | ((with_reducible apply sx_box hp); exact za rfl; exact rfl; clear hp; (try clear w1); intro g w1 hp; simp only [zp, zq, z0, z1])
          | ((with_reducible apply sx_alloc hp); infer_instance; exact rfl; clear hp; (try clear w1); intro g w1 hp; simp only [zp, zq, z0, z1])
          | ((with_reducible apply sx_load_agg hp); exact zt rfl; infer_instance; infer_instance; (first | exact zl rfl | exact LB_le (by omega)); (first | (with_reducible exact LB_set (by omega)) | (simp only [n0, Nat.reduceAdd, n1, n2, n3, n4, n5, n6, n7, n8, n9]; try rfl)); simp only [zp, zq, z0, z1])
          | ((with_reducible apply sx_store hp); exact zt rfl; exact za rfl; exact rfl; (first | exact AggTy.size | exact OneTy.size); exact rfl; infer_instance; (first | (with_reducible exact LB_set (by omega)) | (simp only [n0, Nat.reduceAdd, n1, n2, n3, n4, n5, n6, n7, n8, n9]; try rfl)); (first | exact zl rfl | exact LB_le (by omega)); exact rfl; infer_instance; clear hp; (try clear w1); intro w1 hp))
    exact bodyPost_ret (results_three rfl ⟨_, rfl, run_load_agg hp (Nat.le_of_ble_eq_true rfl)⟩ ⟨_, rfl, run_load_agg hp (Nat.le_of_ble_eq_true rfl)⟩ rfl) rfl ⟨rfl, hp.keep⟩
  · rw [if_neg h0]
    simp only [if_neg h0] at U1
    have UN : Hid (∀ w, Calls Tryz.prog 20 #[PV (n.ccross (axv n))] w (Ret (.tuple #[.agg #[.int .i64 (n.ccross (axv n)).cunit.x, .int .i64 (n.ccross (axv n)).cunit.y, .int .i64 (n.ccross (axv n)).cunit.z], .bool true]) w)) := Lib.hid U1
    clear U1 h0 hn
    generalize n.ccross (axv n) = c at *
    generalize axv n = x at *
    generalize c.cunit = t at *
    generalize n.ccross t = u at *
    go_enter Tryz.func7, Tryz.ntmps7
    have hp := Hp.start [] w
    go_upto_region 1 with (first
          | ((with_reducible apply sx_box hp); (first | exact za rfl | exact zu rfl | exact zi rfl | exact zb rfl | exact zr rfl | exact zs rfl | exact zf rfl | exact zg rfl | exact zn rfl | exact zv rfl | exact zw rfl); exact rfl; clear hp; (try clear w1); intro g w1 hp; simp only [zp, zq, z0, z1])
          | ((with_reducible apply sx_alloc hp); infer_instance; exact rfl; clear hp; (try clear w1); intro g w1 hp; simp only [zp, zq, z0, z1]))
    have hq := hp
    refine wp_drawnG_hp hp hq [] (.q 0 (.q 1 (.p 2 (.p 3 (.p 4 (.q 5 (.q 6 (.q 7 (.l 8 (.l 9 (.q 10 .nil))))))))))) (by kernel_rfl) (by kernel_rfl) ?_
    clear hp hq; (try clear w1); intro w1 hp hq
    repeat' (first
      | (((with_reducible apply sg_q); exact zo rfl); (first
          | ((with_reducible apply sg_load_agg hp); exact rfl; exact zt rfl; infer_instance; infer_instance; (first | exact zl rfl | exact LB_le (by omega)); (first | (with_reducible exact LB_set (by omega)) | (simp only [n0, Nat.reduceAdd, n1, n2, n3, n4, n5, n6, n7, n8, n9]; try rfl)); simp only [zp, zq, z0, z1])
          | ((with_reducible apply sg_move hp); exact zu rfl; simp only [zp, zq, z0, z1])
          | ((with_reducible apply sg_assign hp); exact zb rfl; simp only [zp, zq, z0, z1])
          | ((with_reducible apply sg_pure hp); exact rfl; (focus (intro _; go_simp; (try go_ints); try with_reducible rfl)); simp only [zp, zq, z0, z1])))
      | (((with_reducible apply sg_p); exact zo rfl); ((with_reducible apply sg_call hp); exact rfl; (focus (intro _; go_simp; try first | with_reducible rfl | exact ⟨rfl, rfl⟩)); (with_reducible first | exact fun w => AX.out w | exact fun w => CR.out w | exact fun w => UN.out w); simp only [zp, zq, z0, z1]))
      | (((with_reducible apply sg_l); exact zo rfl); (first
          | ((with_reducible apply sg_alloc hq); (repeat (first | exact List.Sublist.refl _ | exact List.nil_sublist _ | apply List.Sublist.cons_cons | apply List.Sublist.cons)); exact rfl; infer_instance; exact rfl; clear hp hq; (try clear w1); intro g w1 hp hq; simp only [zp, zq, z0, z1])
          | ((with_reducible apply sg_store_far hq); exact rfl; exact zt rfl; (first | exact za rfl | exact zu rfl | exact zi rfl | exact zb rfl | exact zr rfl | exact zs rfl | exact zf rfl | exact zg rfl | exact zn rfl | exact zv rfl | exact zw rfl); exact rfl; (first | exact AggTy.size | exact OneTy.size); exact rfl; infer_instance; (first | (with_reducible exact LB_set (by omega)) | (simp only [n0, Nat.reduceAdd, n1, n2, n3, n4, n5, n6, n7, n8, n9]; try rfl)); (first | exact zl rfl | exact LB_le (by omega)); exact rfl; infer_instance; (repeat (first | exact List.Sublist.refl _ | exact List.nil_sublist _ | apply List.Sublist.cons_cons | apply List.Sublist.cons)); clear hp hq; (try clear w1); intro w1 hp hq)))
      | ((with_reducible apply sg_nil hq); clear hp hq; (try clear w1); intro w1 hp))
    go_upto_region 4 with fail
    have hq := hp
    replace hp := hq.sub (.cons_cons _ (.cons _ (.cons _ (List.Sublist.refl _))))
    refine wp_drawn_hp hp hq [4, 5] (.q 0 (.b2 1 (.l 2 (.l 3 (.l 4 (.l 5 (.q 6 .nil))))) 2 (.l 1 (.l 3 (.l 4 (.l 5 (.q 6 .nil))))))) (by kernel_rfl) (by kernel_rfl) ?_
    clear hp hq; (try clear w1); intro w1 hp hq
    repeat' (first
      | (((with_reducible apply sd_q); exact zo rfl); (first
          | ((with_reducible apply sd_load_agg hp); exact rfl; exact zt rfl; infer_instance; infer_instance; (first | exact zl rfl | exact LB_le (by omega)); (first | (with_reducible exact LB_set (by omega)) | (simp only [n0, Nat.reduceAdd, n1, n2, n3, n4, n5, n6, n7, n8, n9]; try rfl)); simp only [zp, zq, z0, z1])
          | ((with_reducible apply sd_assign hp); exact zi rfl; simp only [zp, zq, z0, z1])
          | ((with_reducible apply sd_pure hp); exact rfl; (focus (intro _; go_simp; (try go_ints); try with_reducible rfl)); simp only [zp, zq, z0, z1])))
      | (((with_reducible apply sd_l); exact zo rfl); (first
          | ((with_reducible apply sd_call hp); exact rfl; (focus (intro _; go_simp; try first | with_reducible rfl | exact ⟨rfl, rfl⟩)); (with_reducible exact fun w => C2.out w); exact hq; clear hp hq; (try clear w1); intro w1 hp hq; simp only [zp, zq, z0, z1])
          | ((with_reducible apply sd_store_far hq); exact rfl; exact zt rfl; (first | exact za rfl | exact zu rfl | exact zi rfl | exact zb rfl | exact zr rfl | exact zs rfl | exact zf rfl | exact zg rfl | exact zn rfl | exact zv rfl | exact zw rfl); exact rfl; (first | exact AggTy.size | exact OneTy.size); exact rfl; infer_instance; (first | (with_reducible exact LB_set (by omega)) | (simp only [n0, Nat.reduceAdd, n1, n2, n3, n4, n5, n6, n7, n8, n9]; try rfl)); (first | exact zl rfl | exact LB_le (by omega)); exact rfl; infer_instance; (repeat (first | exact List.Sublist.refl _ | exact List.nil_sublist _ | apply List.Sublist.cons_cons | apply List.Sublist.cons)); clear hp hq; (try clear w1); intro w1 hp hq)
          | ((with_reducible apply sd_store hq); exact rfl; exact zt rfl; (first | exact za rfl | exact zu rfl | exact zi rfl | exact zb rfl | exact zr rfl | exact zs rfl | exact zf rfl | exact zg rfl | exact zn rfl | exact zv rfl | exact zw rfl); exact rfl; (first | exact AggTy.size | exact OneTy.size); exact rfl; infer_instance; (first | (with_reducible exact LB_set (by omega)) | (simp only [n0, Nat.reduceAdd, n1, n2, n3, n4, n5, n6, n7, n8, n9]; try rfl)); (first | exact zl rfl | exact LB_le (by omega)); exact rfl; infer_instance; exact rfl; clear hp hq; (try clear w1); intro w1 hq; have hp := True.intro)
          | ((with_reducible apply sd_lload_agg hp hq); exact rfl; exact zt rfl; infer_instance; infer_instance; (first | exact zl rfl | exact LB_le (by omega)); (first | (with_reducible exact LB_set (by omega)) | (simp only [n0, Nat.reduceAdd, n1, n2, n3, n4, n5, n6, n7, n8, n9]; try rfl)); simp only [zp, zq, z0, z1])
          | ((with_reducible apply sd_lload_one hp hq); exact rfl; exact zt rfl; infer_instance; infer_instance; (first | exact zio rfl | exact zbo rfl | exact zro rfl | exact zso rfl | exact zfo rfl | exact zgo rfl | exact zno rfl | exact zvo rfl | exact zwo rfl | exact LB_get (by omega)); simp only [zp, zq, z0, z1])))
      | (with_reducible apply sd_b2)
      | ((with_reducible apply sd_nil); clear hp; have hp := hq; clear hq))
    all_goals
      go_wp2
      exact bodyPost_ret (results_three rfl ⟨_, rfl, run_load_agg hp (Nat.le_of_ble_eq_true rfl)⟩ ⟨_, rfl, run_load_agg hp (Nat.le_of_ble_eq_true rfl)⟩ rfl) rfl ⟨rfl, hp.keep⟩
set_option maxHeartbeats 8000000 in
theorem rowsframe_law (n : P3) (hn : n.i64) (g : Int) (hg : I64 g) (t : Int) (ht : I64 t) (w : World) : Calls Tryz.prog 3 #[PV n, .int .i64 g, .int .i64 t] w (Ret (.bool true) w) := by
  have F1' := frame_any n hn
  have F2' := rframe_any n hn
  have A1 := Lib.hid (aim_any g t hg ht)
  have A2 := Lib.hid (raim_any g t hg ht)
  clear hn hg ht
  generalize (frO n).1 = x at *
  generalize (frO n).2.1 = y at *
  generalize (frO n).2.2 = e at *
  generalize (aimO g t).1 = p at *
  generalize (aimO g t).2 = q at *
  have F1 : Hid (∀ w, Calls Tryz.prog 6 #[PV n] w (Ret (.tuple #[.agg #[.int .i64 x.x, .int .i64 x.y, .int .i64 x.z], .agg #[.int .i64 y.x, .int .i64 y.y, .int .i64 y.z], .int .i64 e]) w)) := Lib.hid F1'
  have F2 : Hid (∀ w, Calls Tryz.prog 7 #[PV n] w (Ret (.tuple #[.agg #[.int .i64 x.x, .int .i64 x.y, .int .i64 x.z], .agg #[.int .i64 y.x, .int .i64 y.y, .int .i64 y.z], .int .i64 e]) w)) := Lib.hid F2'
  clear F1' F2'
  go_enter Tryz.func3, Tryz.ntmps3
  have hp := Hp.start [] w
  go_wp2_with (first
          | ((with_reducible apply sx_guard); (conv => whnf); refine Bx.mk ?_; (try simp only [zp, zq, z0, z1]))
          | ((with_reducible apply sx_box hp); exact za rfl; exact rfl; clear hp; (try clear w1); intro g w1 hp; simp only [zp, zq, z0, z1])
          | ((with_reducible apply sx_alloc hp); infer_instance; exact rfl; clear hp; (try clear w1); intro g w1 hp; simp only [zp, zq, z0, z1])
          | ((with_reducible apply sx_load_agg hp); exact zt rfl; infer_instance; infer_instance; (first | exact zl rfl | exact LB_le (by omega)); (first | (with_reducible exact LB_set (by omega)) | (simp only [n0, Nat.reduceAdd, n1, n2, n3, n4, n5, n6, n7, n8, n9]; try rfl)); simp only [zp, zq, z0, z1])
          | ((with_reducible apply sx_store hp); exact zt rfl; exact za rfl; exact rfl; (first | exact AggTy.size | exact OneTy.size); exact rfl; infer_instance; (first | (with_reducible exact LB_set (by omega)) | (simp only [n0, Nat.reduceAdd, n1, n2, n3, n4, n5, n6, n7, n8, n9]; try rfl)); (first | exact zl rfl | exact LB_le (by omega)); exact rfl; infer_instance; clear hp; (try clear w1); intro w1 hp)
          | ((with_reducible first | refine sx_call hp (F1.out _) ?_ | refine sx_call hp (F2.out _) ?_ | refine sx_call hp (A1.out _) ?_ | refine sx_call hp (A2.out _) ?_ | refine sx_call hp (awake22 _) ?_); clear hp; (try clear w1); intro w1 hp))
  exact bodyPost_ret (results_one rfl rfl) rfl ⟨rfl, hp.keep⟩
end Go.Proofs.YtboiepagonlnkaaGreat
