/-
  ninepinref04.Apply, ninepinref22: Resist, Between (contracts); RowsResist.
-/
import Derived.Test.YtboiepagonlnkaaGreatYe
import Derived.Test.YtboiepagonlnkaaGreatYh
set_option linter.unusedSimpArgs false
set_option linter.unusedVariables false
set_option maxRecDepth 100000
namespace Go.Proofs.YtboiepagonlnkaaGreat
open Go Go.RowKit
attribute [local irreducible] wpList

set_option maxHeartbeats 2000000 in
theorem rapply_any (p q r v : P3) (hp' : p.i64) (hq : q.i64) (hr : r.i64) (hv : v.i64) (w : World) : Calls Tryz.prog 34 #[MV p q r, PV v] w (Ret (PV ⟨p.cdot v, q.cdot v, r.cdot v⟩) w) := by
  have D1 := Lib.hid (r3dot_any p v hp' hv)
  have D2 := Lib.hid (r3dot_any q v hq hv)
  have D3 := Lib.hid (r3dot_any r v hr hv)
  clear hp' hq hr hv
  unfold P3.cdot
  generalize cl (p.dot v / 4294967296) = x at *
  generalize cl (q.dot v / 4294967296) = y at *
  generalize cl (r.dot v / 4294967296) = e at *
  go_enter Tryz.func34, Tryz.ntmps34
  have hp := Hp.start [] w
  go_upto_region 1 with (first
          | ((with_reducible apply sx_box hp); (first | exact za rfl | exact zu rfl | exact zi rfl | exact zb rfl | exact zr rfl | exact zs rfl | exact zf rfl | exact zg rfl | exact zn rfl | exact zv rfl | exact zw rfl); exact rfl; clear hp; (try clear w1); intro g w1 hp; simp only [zp, zq, z0, z1])
          | ((with_reducible apply sx_alloc hp); infer_instance; exact rfl; clear hp; (try clear w1); intro g w1 hp; simp only [zp, zq, z0, z1]))
  have hq := hp
  refine wp_drawnG_hp hp hq [16] (.q 0 (.q 1 (.q 2 (.q 3 (.q 5 (.q 6 (.q 7 (.q 8 (.q 10 (.q 11 (.q 12 (.q 13 (.p 4 (.p 9 (.p 14 (.q 15 (.l 16 .nil))))))))))))))))) (by kernel_rfl) (by kernel_rfl) ?_
  clear hp hq; (try clear w1); intro w1 hp hq
  repeat' (first
    | (((with_reducible apply sg_q); exact zo rfl); (first
        | ((with_reducible apply sg_load_agg hp); exact rfl; exact zt rfl; infer_instance; infer_instance; (first | exact zl rfl | exact LB_le (by omega)); (first | (with_reducible exact LB_set (by omega)) | (simp only [n0, Nat.reduceAdd, n1, n2, n3, n4, n5, n6, n7, n8, n9]; try rfl)); simp only [zp, zq, z0, z1])
        | ((with_reducible apply sg_indexAddr hp); exact rfl; exact zx rfl; exact zk rfl; infer_instance; (first | exact AggTy.size | exact OneTy.size); omega; omega; ((try simp only [m0, Int.reduceToNat, m1, m2, Nat.reduceMul, Nat.reduceAdd, m3, m4, m5, n0]); exact rfl); simp only [zp, zq, z0, z1])
        | ((with_reducible apply sg_pure hp); exact rfl; (focus (intro _; go_simp; (try go_ints); try with_reducible rfl)); simp only [zp, zq, z0, z1])))
    | (((with_reducible apply sg_p); exact zo rfl); ((with_reducible apply sg_call hp); exact rfl; (focus (intro _; go_simp; try first | with_reducible rfl | exact ⟨rfl, rfl⟩)); (with_reducible first | exact fun w => D1.out w | exact fun w => D2.out w | exact fun w => D3.out w); simp only [zp, zq, z0, z1]))
    | (((with_reducible apply sg_l); exact zo rfl); (first
        | ((with_reducible apply sg_store_far hq); exact rfl; exact zt rfl; (first | exact za rfl | exact zu rfl | exact zi rfl | exact zb rfl | exact zr rfl | exact zs rfl | exact zf rfl | exact zg rfl | exact zn rfl | exact zv rfl | exact zw rfl); exact rfl; (first | exact AggTy.size | exact OneTy.size); exact rfl; infer_instance; (first | (with_reducible exact LB_set (by omega)) | (simp only [n0, Nat.reduceAdd, n1, n2, n3, n4, n5, n6, n7, n8, n9]; try rfl)); (first | exact zl rfl | exact LB_le (by omega)); exact rfl; infer_instance; (repeat (first | exact List.Sublist.refl _ | apply List.Sublist.cons)); clear hp hq; (try clear w1); intro w1 hp hq)
        | ((with_reducible apply sg_store hq); exact rfl; exact zt rfl; (first | exact za rfl | exact zu rfl | exact zi rfl | exact zb rfl | exact zr rfl | exact zs rfl | exact zf rfl | exact zg rfl | exact zn rfl | exact zv rfl | exact zw rfl); exact rfl; (first | exact AggTy.size | exact OneTy.size); exact rfl; infer_instance; (first | (with_reducible exact LB_set (by omega)) | (simp only [n0, Nat.reduceAdd, n1, n2, n3, n4, n5, n6, n7, n8, n9]; try rfl)); (first | exact zl rfl | exact LB_le (by omega)); exact rfl; infer_instance; exact rfl; clear hp hq; (try clear w1); intro w1 hq; have hp := True.intro)))
    | ((with_reducible apply sg_nil hq); clear hp hq; (try clear w1); intro w1 hp))
  go_wp2
  exact bodyPost_ret (results_one rfl ⟨_, rfl, run_load_agg hp (Nat.le_of_ble_eq_true rfl)⟩) rfl ⟨rfl, hp.keep⟩
set_option maxHeartbeats 4000000 in
theorem rresist_any (b : Inr) (r d : P3) (hb : b.i64) (hr : r.i64) (hd : d.i64) (w : World) : Calls Tryz.prog 12 #[NV b, PV r, PV d] w (Ret (.int .i64 (resv b r d)) w) := by
  obtain ⟨hm, h1, h2, h3, h4, h5⟩ := hb
  have C1 := Lib.hid (r3cross_any r d hr hd)
  have A1 := Lib.hid (rapply_any b.p b.q b.r (r.ccross d) h1 h2 h3 (ccr_i64 _ _))
  have C2 := Lib.hid (r3cross_any ⟨b.p.cdot (r.ccross d), b.q.cdot (r.ccross d), b.r.cdot (r.ccross d)⟩ r ⟨cdot_i64 _ _, cdot_i64 _ _, cdot_i64 _ _⟩ hr)
  have D1 := Lib.hid (r3dot_any d (P3.ccross ⟨b.p.cdot (r.ccross d), b.q.cdot (r.ccross d), b.r.cdot (r.ccross d)⟩ r) hd (ccr_i64 _ _))
  have F1 := Lib.hid (r2add_any b.m (d.cdot (P3.ccross ⟨b.p.cdot (r.ccross d), b.q.cdot (r.ccross d), b.r.cdot (r.ccross d)⟩ r)) hm (cdot_i64 _ _))
  clear hm h1 h2 h3 h4 h5 hr hd
  unfold resv
  generalize cl (b.m + d.cdot (P3.ccross ⟨b.p.cdot (r.ccross d), b.q.cdot (r.ccross d), b.r.cdot (r.ccross d)⟩ r)) = f at *
  unfold P3.cdot at *
  generalize cl (d.dot (P3.ccross ⟨cl (b.p.dot (r.ccross d) / 4294967296), cl (b.q.dot (r.ccross d) / 4294967296), cl (b.r.dot (r.ccross d) / 4294967296)⟩ r) / 4294967296) = e at *
  generalize P3.ccross ⟨cl (b.p.dot (r.ccross d) / 4294967296), cl (b.q.dot (r.ccross d) / 4294967296), cl (b.r.dot (r.ccross d) / 4294967296)⟩ r = c2 at *
  generalize (⟨cl (b.p.dot (r.ccross d) / 4294967296), cl (b.q.dot (r.ccross d) / 4294967296), cl (b.r.dot (r.ccross d) / 4294967296)⟩ : P3) = a1 at *
  generalize r.ccross d = c1 at *
  go_enter Tryz.func12, Tryz.ntmps12
  have hp := Hp.start [] w
  go_upto_region 4 with (first
          | ((with_reducible apply sx_box hp); exact za rfl; exact rfl; clear hp; (try clear w1); intro g w1 hp; simp only [zp, zq, z0, z1])
          | ((with_reducible apply sx_alloc hp); infer_instance; exact rfl; clear hp; (try clear w1); intro g w1 hp; simp only [zp, zq, z0, z1])
          | ((with_reducible apply sx_load_agg hp); exact zt rfl; infer_instance; infer_instance; (first | exact zl rfl | exact LB_le (by omega)); (first | (with_reducible exact LB_set (by omega)) | (simp only [n0, Nat.reduceAdd, n1, n2, n3, n4, n5, n6, n7, n8, n9]; try rfl)); simp only [zp, zq, z0, z1])
          | ((with_reducible apply sx_load_one hp); exact zt rfl; infer_instance; infer_instance; (first | exact zio rfl | exact LB_get (by omega)); simp only [zp, zq, z0, z1])
          | ((with_reducible apply sx_store hp); exact zt rfl; exact za rfl; exact rfl; (first | exact AggTy.size | exact OneTy.size); exact rfl; infer_instance; (first | (with_reducible exact LB_set (by omega)) | (simp only [n0, Nat.reduceAdd, n1, n2, n3, n4, n5, n6, n7, n8, n9]; try rfl)); (first | exact zl rfl | exact LB_le (by omega)); exact rfl; infer_instance; clear hp; (try clear w1); intro w1 hp)
          | ((with_reducible first | refine sx_call hp (C1.out _) ?_ | refine sx_call hp (A1.out _) ?_ | refine sx_call hp (C2.out _) ?_); clear hp; (try clear w1); intro w1 hp))
  have hq := hp
  refine wp_drawnG_hp hp hq [] (.q 0 (.q 1 (.q 2 (.q 3 (.p 4 (.p 5 (.q 6 .nil))))))) (by kernel_rfl) (by kernel_rfl) ?_
  clear hp hq; (try clear w1); intro w1 hp hq
  repeat' (first
    | (((with_reducible apply sg_q); exact zo rfl); (first
        | ((with_reducible apply sg_load_agg hp); exact rfl; exact zt rfl; infer_instance; infer_instance; (first | exact zl rfl | exact LB_le (by omega)); (first | (with_reducible exact LB_set (by omega)) | (simp only [n0, Nat.reduceAdd, n1, n2, n3, n4, n5, n6, n7, n8, n9]; try rfl)); simp only [zp, zq, z0, z1])
        | ((with_reducible apply sg_load_one hp); exact rfl; exact zt rfl; infer_instance; infer_instance; (first | exact zio rfl | exact LB_get (by omega)); simp only [zp, zq, z0, z1])
        | ((with_reducible apply sg_assign hp); exact zi rfl; simp only [zp, zq, z0, z1])
        | ((with_reducible apply sg_pure hp); exact rfl; (focus (intro _; go_simp; (try go_ints); try with_reducible rfl)); simp only [zp, zq, z0, z1])))
    | (((with_reducible apply sg_p); exact zo rfl); ((with_reducible apply sg_call hp); exact rfl; (focus (intro _; go_simp; try first | with_reducible rfl | exact ⟨rfl, rfl⟩)); (with_reducible first | exact fun w => D1.out w | exact fun w => F1.out w); simp only [zp, zq, z0, z1]))
    | ((with_reducible apply sg_nil hq); clear hp hq; (try clear w1); intro w1 hp))
  go_wp2
  exact bodyPost_ret (results_one rfl rfl) rfl ⟨rfl, hp.keep⟩
set_option maxHeartbeats 4000000 in
theorem rbetween_row (a b : Inr) (ra rb d : P3) (ha : a.i64) (hb : b.i64) (hra : ra.i64) (hrb : rb.i64) (hd : d.i64) (w : World) : Calls Tryz.prog 14 #[NV a, NV b, PV ra, PV rb, PV d] w (Ret (.int .i64 (btw a b ra rb d)) w) := by
  have R1 := Lib.hid (rresist_any a ra d ha hra hd)
  have R2 := Lib.hid (rresist_any b rb d hb hrb hd)
  have F1 := Lib.hid (r2add_any _ _ (resv_i64 a ra d) (resv_i64 b rb d))
  have D1 := Lib.hid (r2div_down 4294967296 _ (by unfold I64; omega) (cl_i64 (resv a ra d + resv b rb d)))
  clear ha hb hra hrb hd
  unfold btw
  generalize cl (resv a ra d + resv b rb d) = s at *
  generalize resv a ra d = x at *
  generalize resv b rb d = y at *
  generalize dq 4294967296 s = f at *
  by_cases h0 : s ≤ 0
  · rw [if_pos h0]
    have h1 : ¬ 0 < s := by omega
    clear h0
    go_enter Tryz.func14, Tryz.ntmps14
    have hp := Hp.start [] w
    go_upto_region 1 with (first
          | ((with_reducible apply sx_box hp); (first | exact za rfl | exact zu rfl | exact zi rfl | exact zb rfl | exact zr rfl | exact zs rfl | exact zf rfl | exact zg rfl | exact zn rfl | exact zv rfl | exact zw rfl); exact rfl; clear hp; (try clear w1); intro g w1 hp; simp only [zp, zq, z0, z1])
          | ((with_reducible apply sx_alloc hp); infer_instance; exact rfl; clear hp; (try clear w1); intro g w1 hp; simp only [zp, zq, z0, z1]))
    have hq := hp
    refine wp_drawnG_hp hp hq [] (.q 0 (.q 1 (.q 2 (.q 4 (.q 5 (.q 6 (.p 3 (.p 7 (.p 8 (.q 9 .nil)))))))))) (by kernel_rfl) (by kernel_rfl) ?_
    clear hp hq; (try clear w1); intro w1 hp hq
    repeat' (first
      | (((with_reducible apply sg_q); exact zo rfl); (first
          | ((with_reducible apply sg_load_agg hp); exact rfl; exact zt rfl; infer_instance; infer_instance; (first | exact zl rfl | exact LB_le (by omega)); (first | (with_reducible exact LB_set (by omega)) | (simp only [n0, Nat.reduceAdd, n1, n2, n3, n4, n5, n6, n7, n8, n9]; try rfl)); simp only [zp, zq, z0, z1])
          | ((with_reducible apply sg_assign hp); exact zi rfl; simp only [zp, zq, z0, z1])
          | ((with_reducible apply sg_pure hp); exact rfl; (focus (intro _; go_simp; (try go_ints); try with_reducible rfl)); simp only [zp, zq, z0, z1])))
      | (((with_reducible apply sg_p); exact zo rfl); ((with_reducible apply sg_call hp); exact rfl; (focus (intro _; go_simp; try first | with_reducible rfl | exact ⟨rfl, rfl⟩)); (with_reducible first | exact fun w => R1.out w | exact fun w => R2.out w | exact fun w => F1.out w); simp only [zp, zq, z0, z1]))
      | ((with_reducible apply sg_nil hq); clear hp hq; (try clear w1); intro w1 hp))
    go_wp2_with (first
          | ((with_reducible apply sx_box hp); exact za rfl; exact rfl; clear hp; (try clear w1); intro g w1 hp; simp only [zp, zq, z0, z1])
          | ((with_reducible apply sx_load_agg hp); exact zt rfl; infer_instance; infer_instance; (first | exact zl rfl | exact LB_le (by omega)); (first | (with_reducible exact LB_set (by omega)) | (simp only [n0, Nat.reduceAdd, n1, n2, n3, n4, n5, n6, n7, n8, n9]; try rfl)); simp only [zp, zq, z0, z1]))
    exact bodyPost_ret (results_one rfl rfl) rfl ⟨rfl, hp.keep⟩
  · rw [if_neg h0]
    have h1 : 0 < s := by omega
    clear h0
    go_enter Tryz.func14, Tryz.ntmps14
    have hp := Hp.start [] w
    go_upto_region 1 with (first
          | ((with_reducible apply sx_box hp); (first | exact za rfl | exact zu rfl | exact zi rfl | exact zb rfl | exact zr rfl | exact zs rfl | exact zf rfl | exact zg rfl | exact zn rfl | exact zv rfl | exact zw rfl); exact rfl; clear hp; (try clear w1); intro g w1 hp; simp only [zp, zq, z0, z1])
          | ((with_reducible apply sx_alloc hp); infer_instance; exact rfl; clear hp; (try clear w1); intro g w1 hp; simp only [zp, zq, z0, z1]))
    have hq := hp
    refine wp_drawnG_hp hp hq [] (.q 0 (.q 1 (.q 2 (.q 4 (.q 5 (.q 6 (.p 3 (.p 7 (.p 8 (.q 9 .nil)))))))))) (by kernel_rfl) (by kernel_rfl) ?_
    clear hp hq; (try clear w1); intro w1 hp hq
    repeat' (first
      | (((with_reducible apply sg_q); exact zo rfl); (first
          | ((with_reducible apply sg_load_agg hp); exact rfl; exact zt rfl; infer_instance; infer_instance; (first | exact zl rfl | exact LB_le (by omega)); (first | (with_reducible exact LB_set (by omega)) | (simp only [n0, Nat.reduceAdd, n1, n2, n3, n4, n5, n6, n7, n8, n9]; try rfl)); simp only [zp, zq, z0, z1])
          | ((with_reducible apply sg_assign hp); exact zi rfl; simp only [zp, zq, z0, z1])
          | ((with_reducible apply sg_pure hp); exact rfl; (focus (intro _; go_simp; (try go_ints); try with_reducible rfl)); simp only [zp, zq, z0, z1])))
      | (((with_reducible apply sg_p); exact zo rfl); ((with_reducible apply sg_call hp); exact rfl; (focus (intro _; go_simp; try first | with_reducible rfl | exact ⟨rfl, rfl⟩)); (with_reducible first | exact fun w => R1.out w | exact fun w => R2.out w | exact fun w => F1.out w); simp only [zp, zq, z0, z1]))
      | ((with_reducible apply sg_nil hq); clear hp hq; (try clear w1); intro w1 hp))
    go_wp2_with (first
          | ((with_reducible apply sx_box hp); exact za rfl; exact rfl; clear hp; (try clear w1); intro g w1 hp; simp only [zp, zq, z0, z1])
          | ((with_reducible apply sx_load_agg hp); exact zt rfl; infer_instance; infer_instance; (first | exact zl rfl | exact LB_le (by omega)); (first | (with_reducible exact LB_set (by omega)) | (simp only [n0, Nat.reduceAdd, n1, n2, n3, n4, n5, n6, n7, n8, n9]; try rfl)); simp only [zp, zq, z0, z1])
          | ((with_reducible refine sx_call hp (D1.out _) ?_); clear hp; (try clear w1); intro w1 hp))
    exact bodyPost_ret (results_one rfl rfl) rfl ⟨rfl, hp.keep⟩
set_option maxHeartbeats 8000000 in
theorem resist_law (a : Inr) (ha : a.i64) (b : Inr) (hb : b.i64) (r : P3) (hr : r.i64) (s : P3) (hs : s.i64) (d : P3) (hd : d.i64) (w : World) :
    Calls Tryz.prog 4 #[NV a, NV b, PV r, PV s, PV d] w (Ret (.bool true) w) := by
  have R1 := Lib.hid (resist_any a r d ha hr hd)
  have R2 := Lib.hid (rresist_any a r d ha hr hd)
  have B1 := Lib.hid (between_row a b r s d ha hb hr hs hd)
  have B2 := Lib.hid (rbetween_row a b r s d ha hb hr hs hd)
  clear ha hb hr hs hd
  generalize resv a r d = x at *
  generalize btw a b r s d = y at *
  go_enter Tryz.func4, Tryz.ntmps4
  have hp := Hp.start [] w
  go_upto_region 1 with (first
          | ((with_reducible apply sx_box hp); (first | exact za rfl | exact zu rfl | exact zi rfl | exact zb rfl | exact zr rfl | exact zs rfl | exact zf rfl | exact zg rfl | exact zn rfl | exact zv rfl | exact zw rfl); exact rfl; clear hp; (try clear w1); intro g w1 hp; simp only [zp, zq, z0, z1])
          | ((with_reducible apply sx_alloc hp); infer_instance; exact rfl; clear hp; (try clear w1); intro g w1 hp; simp only [zp, zq, z0, z1]))
  have hq := hp
  refine wp_drawnG_hp hp hq [] (.q 0 (.q 1 (.q 2 (.q 4 (.q 5 (.q 6 (.p 3 (.p 7 (.q 8 (.q 9 (.q 10 (.q 11 (.q 12 (.q 13 (.q 14 (.q 16 (.q 17 (.q 18 (.q 19 (.q 20 (.p 15 (.p 21 (.q 22 (.q 23 (.q 24 (.p 25 (.q 26 (.q 27 .nil)))))))))))))))))))))))))))) (by kernel_rfl) (by kernel_rfl) ?_
  clear hp hq; (try clear w1); intro w1 hp hq
  repeat' (first
    | (((with_reducible apply sg_q); exact zo rfl); (first
        | ((with_reducible apply sg_load_agg hp); exact rfl; exact zt rfl; infer_instance; infer_instance; (first | exact zl rfl | exact LB_le (by omega)); (first | (with_reducible exact LB_set (by omega)) | (simp only [n0, Nat.reduceAdd, n1, n2, n3, n4, n5, n6, n7, n8, n9]; try rfl)); simp only [zp, zq, z0, z1])
        | ((with_reducible apply sg_move hp); exact zb rfl; simp only [zp, zq, z0, z1])
        | ((with_reducible apply sg_assign hp); exact zb rfl; simp only [zp, zq, z0, z1])
        | ((with_reducible apply sg_pure hp); exact rfl; (focus (intro _; go_simp; (try go_ints); try with_reducible rfl)); simp only [zp, zq, z0, z1])
        | ((with_reducible apply sg_skip hp); exact rfl; simp only [zp, zq, z0, z1])))
    | (((with_reducible apply sg_p); exact zo rfl); (first
        | ((with_reducible apply sg_call hp); exact rfl; (focus (intro _; go_simp; try first | with_reducible rfl | exact ⟨rfl, rfl⟩)); (with_reducible first | exact fun w => R1.out w | exact fun w => R2.out w | exact fun w => B1.out w | exact fun w => B2.out w | exact fun w => awake22 w); simp only [zp, zq, z0, z1])
        | ((with_reducible apply sg_skipP hp); exact rfl; simp only [zp, zq, z0, z1])))
    | ((with_reducible apply sg_nil hq); clear hp hq; (try clear w1); intro w1 hp))
  go_wp2
  exact bodyPost_ret (results_one rfl rfl) rfl ⟨rfl, hp.keep⟩
end Go.Proofs.YtboiepagonlnkaaGreat
