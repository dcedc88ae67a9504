/-
  Package grid: Value; package ninepinref06: raw, Value, near, Round; ninepinlaw06.GridRound (contracts).
-/
import Derived.Test.YtbhlnbllkoomfaaJd
import Derived.Test.YtbhlnbllkoomfaaBo
import Derived.Test.YtbhlnbllkoomfaaEd
set_option linter.unusedSimpArgs false
set_option linter.unusedVariables false
set_option maxRecDepth 100000
namespace Go.Proofs.Ytbhlnbllkoomfaa
open Go Go.RowKit
attribute [local irreducible] wpList

/-- A place as a number. -/
def rv (n : Int) : Int := cl (n * 65536)
theorem inv_16 (n : Int) : inv n 16 = rv n := by
  unfold inv rv
  rw [if_neg (by omega)]
  rfl
theorem value1_any (n : Int) (h : I64 n) (w : World) : Calls Try.prog 77 #[.int .i64 n] w (Ret (.int .i64 (rv n)) w) := by
  have HO := Lib.hid fun w => of_i64 n h w
  have HI := Lib.hid fun w => in_any n 16 (fit_i64 h) (by unfold I64; omega) w
  rw [inv_16] at HI
  clear h
  generalize rv n = r at *
  go_enter Try.func77, Try.ntmps77
  have hp := Hp.start [] w
  go_wp2_with (first
          | ((with_reducible first | refine sx_call hp (HO.out _) ?_ | refine sx_call hp (HI.out _) ?_); clear hp; (try clear w1); intro w1 hp))
  exact bodyPost_ret (results_one rfl rfl) rfl ⟨rfl, hp.keep⟩
def P3.rv (p : P3) : P3 := ⟨Ytbhlnbllkoomfaa.rv p.x, Ytbhlnbllkoomfaa.rv p.y, Ytbhlnbllkoomfaa.rv p.z⟩
set_option maxHeartbeats 4000000 in
theorem value_any (p : P3) (h : p.i64) (w : World) : Calls Try.prog 40 #[PV p] w (Ret (PV p.rv) w) := by
  obtain ⟨x, y, z⟩ := p
  obtain ⟨h1, h2, h3⟩ := h
  have V1 := Lib.hid fun w => value1_any x h1 w
  have V2 := Lib.hid fun w => value1_any y h2 w
  have V3 := Lib.hid fun w => value1_any z h3 w
  unfold P3.rv
  dsimp only at *
  clear h1 h2 h3
  generalize rv x = p at *
  generalize rv y = q at *
  generalize rv z = r at *
  go_enter Try.func40, Try.ntmps40
  have hp := Hp.start [] w
  go_upto_region 2 with (first
          | ((with_reducible apply sx_box hp); exact za rfl; exact rfl; clear hp; (try clear w1); intro g w1 hp; simp only [zp, zq, z0, z1])
          | ((with_reducible apply sx_alloc hp); infer_instance; exact rfl; clear hp; (try clear w1); intro g w1 hp; simp only [zp, zq, z0, z1])
          | ((with_reducible apply sx_load_one hp); exact zt rfl; infer_instance; infer_instance; (first | exact zio rfl | exact LB_get (by omega)); simp only [zp, zq, z0, z1])
          | ((with_reducible apply sx_store hp); exact zt rfl; exact za rfl; exact rfl; (first | exact AggTy.size | exact OneTy.size); exact rfl; infer_instance; (first | (with_reducible exact LB_set (by omega)) | (simp only [n0, Nat.reduceAdd, n1, n2, n3, n4, n5, n6, n7, n8, n9]; try rfl)); (first | exact zl rfl | exact LB_le (by omega)); exact rfl; infer_instance; clear hp; (try clear w1); intro w1 hp))
  have hq := hp
  clear hp
  have hp := hq.sub (.cons _ (List.Sublist.refl _))
  refine wp_drawn_hp hp hq [13] (.q 0 (.q 1 (.q 2 (.q 4 (.q 5 (.q 6 (.q 8 (.q 9 (.q 10 (.l 3 (.l 7 (.l 11 (.q 12 (.l 13 .nil)))))))))))))) (by kernel_rfl) (by kernel_rfl) ?_
  clear hp hq; (try clear w1); intro w1 hp hq
  ((with_reducible apply sd_q); exact zo rfl)
  ((with_reducible apply sd_move hp); (first | exact zf rfl | exact zn rfl); simp only [zp, zq, z0, z1])
  ((with_reducible apply sd_q); exact zo rfl)
  ((with_reducible apply sd_pure hp); exact rfl; (focus (intro _; go_simp; (try go_ints); try with_reducible rfl)); simp only [zp, zq, z0, z1])
  ((with_reducible apply sd_q); exact zo rfl)
  ((with_reducible apply sd_load_one hp); exact rfl; exact zt rfl; infer_instance; infer_instance; (first | exact zio rfl | exact LB_get (by omega)); simp only [zp, zq, z0, z1])
  ((with_reducible apply sd_q); exact zo rfl)
  ((with_reducible apply sd_move hp); (first | exact zf rfl | exact zn rfl); simp only [zp, zq, z0, z1])
  ((with_reducible apply sd_q); exact zo rfl)
  ((with_reducible apply sd_pure hp); exact rfl; (focus (intro _; go_simp; (try go_ints); try with_reducible rfl)); simp only [zp, zq, z0, z1])
  ((with_reducible apply sd_q); exact zo rfl)
  ((with_reducible apply sd_load_one hp); exact rfl; exact zt rfl; infer_instance; infer_instance; (first | exact zio rfl | exact LB_get (by omega)); simp only [zp, zq, z0, z1])
  ((with_reducible apply sd_q); exact zo rfl)
  ((with_reducible apply sd_move hp); (first | exact zf rfl | exact zn rfl); simp only [zp, zq, z0, z1])
  ((with_reducible apply sd_q); exact zo rfl)
  ((with_reducible apply sd_pure hp); exact rfl; (focus (intro _; go_simp; (try go_ints); try with_reducible rfl)); simp only [zp, zq, z0, z1])
  ((with_reducible apply sd_q); exact zo rfl)
  ((with_reducible apply sd_load_one hp); exact rfl; exact zt rfl; infer_instance; infer_instance; (first | exact zio rfl | exact LB_get (by omega)); simp only [zp, zq, z0, z1])
  ((with_reducible apply sd_l); exact zo rfl)
  ((with_reducible apply sd_call hp); exact rfl; (focus (intro _; go_simp; try first | with_reducible rfl | exact ⟨rfl, rfl⟩)); (with_reducible first | exact fun w => V1.out w | exact fun w => V2.out w | exact fun w => V3.out w); exact hq; clear hp hq; (try clear w1); intro w1 hp hq; simp only [zp, zq, z0, z1])
  ((with_reducible apply sd_l); exact zo rfl)
  ((with_reducible apply sd_call hp); exact rfl; (focus (intro _; go_simp; try first | with_reducible rfl | exact ⟨rfl, rfl⟩)); (with_reducible first | exact fun w => V1.out w | exact fun w => V2.out w | exact fun w => V3.out w); exact hq; clear hp hq; (try clear w1); intro w1 hp hq; simp only [zp, zq, z0, z1])
  ((with_reducible apply sd_l); exact zo rfl)
  ((with_reducible apply sd_call hp); exact rfl; (focus (intro _; go_simp; try first | with_reducible rfl | exact ⟨rfl, rfl⟩)); (with_reducible first | exact fun w => V1.out w | exact fun w => V2.out w | exact fun w => V3.out w); exact hq; clear hp hq; (try clear w1); intro w1 hp hq; simp only [zp, zq, z0, z1])
  ((with_reducible apply sd_q); exact zo rfl)
  ((with_reducible apply sd_pure hp); exact rfl; (focus (intro _; go_simp; (try go_ints); try with_reducible rfl)); simp only [zp, zq, z0, z1])
  ((with_reducible apply sd_l); exact zo rfl)
  (first
      | ((with_reducible apply sd_store_far hq); exact rfl; exact zt rfl; exact za rfl; exact rfl; (first | exact AggTy.size | exact OneTy.size); exact rfl; infer_instance; (first | (with_reducible exact LB_set (by omega)) | (simp only [n0, Nat.reduceAdd, n1, n2, n3, n4, n5, n6, n7, n8, n9]; try rfl)); (first | exact zl rfl | exact LB_le (by omega)); exact rfl; infer_instance; (repeat (first | exact List.Sublist.refl _ | apply List.Sublist.cons_cons | apply List.Sublist.cons)); clear hp hq; (try clear w1); intro w1 hp hq)
      | ((with_reducible apply sd_store hq); exact rfl; exact zt rfl; exact za rfl; exact rfl; (first | exact AggTy.size | exact OneTy.size); exact rfl; infer_instance; (first | (with_reducible exact LB_set (by omega)) | (simp only [n0, Nat.reduceAdd, n1, n2, n3, n4, n5, n6, n7, n8, n9]; try rfl)); (first | exact zl rfl | exact LB_le (by omega)); exact rfl; infer_instance; exact rfl; clear hp hq; (try clear w1); intro w1 hq; have hp := True.intro))
  (with_reducible apply sd_nil)
  clear hp; have hp := hq; clear hq
  go_wp2
  exact bodyPost_ret (results_one rfl ⟨_, rfl, run_load_agg hp (Nat.le_of_ble_eq_true rfl)⟩) rfl ⟨rfl, hp.keep⟩
theorem raw6_any (n : Int) (h : I64 n) (w : World) : Calls Try.prog 79 #[.int .i64 n] w (Ret (.int .i64 (rv n)) w) := by
  have HO := Lib.hid fun w => rsmall_i64 n h w
  have hf : Fit (n * 65536) := by unfold I64 at h; unfold Fit M511; omega
  have hk : shok n 16 := ⟨by omega, .inr ⟨by omega, hf⟩⟩
  have e : shlv n 16 = n * 65536 := by unfold shlv; rw [if_pos hk]; rfl
  have HT : Hid (∀ w, Calls Try.prog 108 #[W n, .int .i64 16] w (Ret (W (n * 65536)) w)) := Lib.hid fun w => by
    have HS := Lib.hid fun w => rshl_any n 16 (fit_i64 h) w
    rw [e] at HS
    generalize n * 65536 = m at *
    generalize decide (shok n 16) = o at *
    clear hf hk e h HO
    go_enter Try.func108, Try.ntmps108
    have hp := Hp.start [] w
    go_wp2_with (first
          | ((with_reducible apply sx_box hp); exact za rfl; exact rfl; clear hp; (try clear w1); intro g w1 hp; simp only [zp, zq, z0, z1])
          | ((with_reducible apply sx_alloc hp); infer_instance; exact rfl; clear hp; (try clear w1); intro g w1 hp; simp only [zp, zq, z0, z1])
          | ((with_reducible apply sx_load_agg hp); exact zt rfl; infer_instance; infer_instance; (first | exact zl rfl | exact LB_le (by omega)); (first | (with_reducible exact LB_set (by omega)) | (simp only [n0, Nat.reduceAdd, n1, n2, n3, n4, n5, n6, n7, n8, n9]; try rfl)); simp only [zp, zq, z0, z1])
          | ((with_reducible apply sx_store hp); exact zt rfl; exact za rfl; exact rfl; (first | exact AggTy.size | exact OneTy.size); exact rfl; infer_instance; (first | (with_reducible exact LB_set (by omega)) | (simp only [n0, Nat.reduceAdd, n1, n2, n3, n4, n5, n6, n7, n8, n9]; try rfl)); (first | exact zl rfl | exact LB_le (by omega)); exact rfl; infer_instance; clear hp; (try clear w1); intro w1 hp)
          | ((with_reducible refine sx_call hp (HS.out _) ?_); clear hp; (try clear w1); intro w1 hp))
    exact bodyPost_ret (results_one rfl ⟨_, rfl, run_load_agg hp (Nat.le_of_ble_eq_true rfl)⟩) rfl ⟨rfl, hp.keep⟩
  have HI := Lib.hid fun w => rwithin_any (n * 65536) hf w
  clear h hf hk e
  unfold rv
  generalize n * 65536 = m at *
  generalize cl m = r at *
  go_enter Try.func79, Try.ntmps79
  have hp := Hp.start [] w
  go_wp2_with (first
          | ((with_reducible first | refine sx_call hp (HO.out _) ?_ | refine sx_call hp (HT.out _) ?_ | refine sx_call hp (HI.out _) ?_); clear hp; (try clear w1); intro w1 hp))
  exact bodyPost_ret (results_one rfl rfl) rfl ⟨rfl, hp.keep⟩
set_option maxHeartbeats 4000000 in
theorem rvalue_any (p : P3) (h : p.i64) (w : World) : Calls Try.prog 41 #[PV p] w (Ret (PV p.rv) w) := by
  obtain ⟨x, y, z⟩ := p
  obtain ⟨h1, h2, h3⟩ := h
  have V1 := Lib.hid fun w => raw6_any x h1 w
  have V2 := Lib.hid fun w => raw6_any y h2 w
  have V3 := Lib.hid fun w => raw6_any z h3 w
  unfold P3.rv
  dsimp only at *
  clear h1 h2 h3
  generalize rv x = p at *
  generalize rv y = q at *
  generalize rv z = r at *
  go_enter Try.func41, Try.ntmps41
  have hp := Hp.start [] w
  go_upto_region 1 with (first
          | ((with_reducible apply sx_box hp); exact za rfl; exact rfl; clear hp; (try clear w1); intro g w1 hp; simp only [zp, zq, z0, z1])
          | ((with_reducible apply sx_alloc hp); infer_instance; exact rfl; clear hp; (try clear w1); intro g w1 hp; simp only [zp, zq, z0, z1])
          | ((with_reducible apply sx_load_one hp); exact zt rfl; infer_instance; infer_instance; (first | exact zio rfl | exact LB_get (by omega)); simp only [zp, zq, z0, z1])
          | ((with_reducible apply sx_store hp); exact zt rfl; exact za rfl; exact rfl; (first | exact AggTy.size | exact OneTy.size); exact rfl; infer_instance; (first | (with_reducible exact LB_set (by omega)) | (simp only [n0, Nat.reduceAdd, n1, n2, n3, n4, n5, n6, n7, n8, n9]; try rfl)); (first | exact zl rfl | exact LB_le (by omega)); exact rfl; infer_instance; clear hp; (try clear w1); intro w1 hp))
  have hq := hp
  clear hp
  have hp := hq.sub (.cons _ (List.Sublist.refl _))
  refine wp_drawn_hp hp hq [10] (.q 0 (.q 1 (.q 3 (.q 4 (.q 6 (.q 7 (.l 2 (.l 5 (.l 8 (.q 9 (.l 10 .nil))))))))))) (by kernel_rfl) (by kernel_rfl) ?_
  clear hp hq; (try clear w1); intro w1 hp hq
  ((with_reducible apply sd_q); exact zo rfl)
  ((with_reducible apply sd_pure hp); exact rfl; (focus (intro _; go_simp; (try go_ints); try with_reducible rfl)); simp only [zp, zq, z0, z1])
  ((with_reducible apply sd_q); exact zo rfl)
  ((with_reducible apply sd_load_one hp); exact rfl; exact zt rfl; infer_instance; infer_instance; (first | exact zio rfl | exact LB_get (by omega)); simp only [zp, zq, z0, z1])
  ((with_reducible apply sd_q); exact zo rfl)
  ((with_reducible apply sd_pure hp); exact rfl; (focus (intro _; go_simp; (try go_ints); try with_reducible rfl)); simp only [zp, zq, z0, z1])
  ((with_reducible apply sd_q); exact zo rfl)
  ((with_reducible apply sd_load_one hp); exact rfl; exact zt rfl; infer_instance; infer_instance; (first | exact zio rfl | exact LB_get (by omega)); simp only [zp, zq, z0, z1])
  ((with_reducible apply sd_q); exact zo rfl)
  ((with_reducible apply sd_pure hp); exact rfl; (focus (intro _; go_simp; (try go_ints); try with_reducible rfl)); simp only [zp, zq, z0, z1])
  ((with_reducible apply sd_q); exact zo rfl)
  ((with_reducible apply sd_load_one hp); exact rfl; exact zt rfl; infer_instance; infer_instance; (first | exact zio rfl | exact LB_get (by omega)); simp only [zp, zq, z0, z1])
  ((with_reducible apply sd_l); exact zo rfl)
  ((with_reducible apply sd_call hp); exact rfl; (focus (intro _; go_simp; try first | with_reducible rfl | exact ⟨rfl, rfl⟩)); (with_reducible first | exact fun w => V1.out w | exact fun w => V2.out w | exact fun w => V3.out w); exact hq; clear hp hq; (try clear w1); intro w1 hp hq; simp only [zp, zq, z0, z1])
  ((with_reducible apply sd_l); exact zo rfl)
  ((with_reducible apply sd_call hp); exact rfl; (focus (intro _; go_simp; try first | with_reducible rfl | exact ⟨rfl, rfl⟩)); (with_reducible first | exact fun w => V1.out w | exact fun w => V2.out w | exact fun w => V3.out w); exact hq; clear hp hq; (try clear w1); intro w1 hp hq; simp only [zp, zq, z0, z1])
  ((with_reducible apply sd_l); exact zo rfl)
  ((with_reducible apply sd_call hp); exact rfl; (focus (intro _; go_simp; try first | with_reducible rfl | exact ⟨rfl, rfl⟩)); (with_reducible first | exact fun w => V1.out w | exact fun w => V2.out w | exact fun w => V3.out w); exact hq; clear hp hq; (try clear w1); intro w1 hp hq; simp only [zp, zq, z0, z1])
  ((with_reducible apply sd_q); exact zo rfl)
  ((with_reducible apply sd_pure hp); exact rfl; (focus (intro _; go_simp; (try go_ints); try with_reducible rfl)); simp only [zp, zq, z0, z1])
  ((with_reducible apply sd_l); exact zo rfl)
  (first
      | ((with_reducible apply sd_store_far hq); exact rfl; exact zt rfl; exact za rfl; exact rfl; (first | exact AggTy.size | exact OneTy.size); exact rfl; infer_instance; (first | (with_reducible exact LB_set (by omega)) | (simp only [n0, Nat.reduceAdd, n1, n2, n3, n4, n5, n6, n7, n8, n9]; try rfl)); (first | exact zl rfl | exact LB_le (by omega)); exact rfl; infer_instance; (repeat (first | exact List.Sublist.refl _ | apply List.Sublist.cons_cons | apply List.Sublist.cons)); clear hp hq; (try clear w1); intro w1 hp hq)
      | ((with_reducible apply sd_store hq); exact rfl; exact zt rfl; exact za rfl; exact rfl; (first | exact AggTy.size | exact OneTy.size); exact rfl; infer_instance; (first | (with_reducible exact LB_set (by omega)) | (simp only [n0, Nat.reduceAdd, n1, n2, n3, n4, n5, n6, n7, n8, n9]; try rfl)); (first | exact zl rfl | exact LB_le (by omega)); exact rfl; infer_instance; exact rfl; clear hp hq; (try clear w1); intro w1 hq; have hp := True.intro))
  (with_reducible apply sd_nil)
  clear hp; have hp := hq; clear hq
  go_wp2
  exact bodyPost_ret (results_one rfl ⟨_, rfl, run_load_agg hp (Nat.le_of_ble_eq_true rfl)⟩) rfl ⟨rfl, hp.keep⟩
set_option maxHeartbeats 4000000 in
theorem rnear_any (n : Int) (h : I64 n) (w : World) : Calls Try.prog 76 #[.int .i64 n] w (Ret (.int .i64 (rnd n)) w) := by
  unfold rnd
  obtain ⟨h0, h1⟩ := h
  go_enter Try.func76, Try.ntmps76
  have hp := Hp.start [] w
  go_wp2_with (first
          | fail)
  all_goals
    refine bodyPost_ret (results_one rfl rfl) rfl ⟨?_, hp.keep⟩
    refine congrArg Ending.returned (congrArg (Value.int .i64) ?_)
    have hd := Int.mul_tdiv_add_tmod n 65536
    have hr1 := Int.tmod_lt_of_pos n (show (0 : Int) < 65536 by omega)
    have hr2 := Int.lt_tmod_of_pos n (show (0 : Int) < 65536 by omega)
    generalize n.tdiv 65536 = q at *
    generalize n.tmod 65536 = r at *
    unfold wrap64 at *
    omega
set_option maxHeartbeats 4000000 in
theorem rround_any (x y z : Int) (hx : I64 x) (hy : I64 y) (hz : I64 z) (w : World) : Calls Try.prog 39 #[.agg #[.int .i64 x, .int .i64 y, .int .i64 z]] w (Ret (rndV x y z) w) := by
  have NX := Lib.hid (rnear_any x hx)
  have NY := Lib.hid (rnear_any y hy)
  have NZ := Lib.hid (rnear_any z hz)
  have hc := rcheck_any ⟨rnd x, rnd y, rnd z⟩
  clear hx hy hz
  unfold rndV
  by_cases hm : P3.may ⟨rnd x, rnd y, rnd z⟩
  · rw [if_pos hm]
    simp only [if_pos hm] at hc
    generalize rnd x = p at *
    generalize rnd y = q at *
    generalize rnd z = r at *
    have HC := Lib.hid hc
    clear hc hm
    go_enter Try.func39, Try.ntmps39
    have hp := Hp.start [] w
    go_upto_region 1 with (first
          | ((with_reducible apply sx_box hp); (first | exact za rfl | exact zu rfl | exact zi rfl | exact zb rfl | exact zr rfl | exact zs rfl | exact zf rfl | exact zg rfl | exact zn rfl | exact zv rfl | exact zw rfl); exact rfl; clear hp; (try clear w1); intro g w1 hp; simp only [zp, zq, z0, z1])
          | ((with_reducible apply sx_alloc hp); infer_instance; exact rfl; clear hp; (try clear w1); intro g w1 hp; simp only [zp, zq, z0, z1]))
    rename_i ga K hK
    obtain ⟨gp, rfl⟩ : ∃ k : Nat, k = g := ⟨_, rfl⟩
    go_cut [4] (fun s4 wx => ∃ g4, s4 = .pointer (some ⟨g4, 0, none⟩) ∧ Hp [] w [⟨g4, 29, [.int .i64 p, .int .i64 q, .int .i64 r]⟩, ⟨gp, 29, [.int .i64 0, .int .i64 0, .int .i64 0]⟩, ⟨ga, 58, [.int .i64 x, .int .i64 y, .int .i64 z]⟩] wx)
    case first =>
      skip
      have hq := hp
      refine wp_drawn_hp hp hq [11] (.q 0 (.q 1 (.q 3 (.q 4 (.q 6 (.q 7 (.b2 2 (.b2 5 (.b2 8 (.q 9 (.l 10 (.l 11 .nil))) 10 (.l 8 (.q 9 (.l 11 .nil)))) 10 (.l 5 (.l 8 (.q 9 (.l 11 .nil))))) 10 (.l 2 (.l 5 (.l 8 (.q 9 (.l 11 .nil)))))))))))) (by kernel_rfl) (by kernel_rfl) ?_
      clear hp hq; (try clear w1); intro w1 hp hq
      ((with_reducible apply sd_q); exact zo rfl)
      ((with_reducible apply sd_pure hp); exact rfl; (focus (intro _; go_simp; (try go_ints); try with_reducible rfl)); simp only [zp, zq, z0, z1])
      ((with_reducible apply sd_q); exact zo rfl)
      ((with_reducible apply sd_load_one hp); exact rfl; exact zt rfl; infer_instance; infer_instance; (first | exact zio rfl | exact LB_get (by omega)); simp only [zp, zq, z0, z1])
      ((with_reducible apply sd_q); exact zo rfl)
      ((with_reducible apply sd_pure hp); exact rfl; (focus (intro _; go_simp; (try go_ints); try with_reducible rfl)); simp only [zp, zq, z0, z1])
      ((with_reducible apply sd_q); exact zo rfl)
      ((with_reducible apply sd_load_one hp); exact rfl; exact zt rfl; infer_instance; infer_instance; (first | exact zio rfl | exact LB_get (by omega)); simp only [zp, zq, z0, z1])
      ((with_reducible apply sd_q); exact zo rfl)
      ((with_reducible apply sd_pure hp); exact rfl; (focus (intro _; go_simp; (try go_ints); try with_reducible rfl)); simp only [zp, zq, z0, z1])
      ((with_reducible apply sd_q); exact zo rfl)
      ((with_reducible apply sd_load_one hp); exact rfl; exact zt rfl; infer_instance; infer_instance; (first | exact zio rfl | exact LB_get (by omega)); simp only [zp, zq, z0, z1])
      (with_reducible apply sd_b2)
      · skip
        ((with_reducible apply sd_l); exact zo rfl)
        ((with_reducible apply sd_call hp); exact rfl; (focus (intro _; go_simp; try first | with_reducible rfl | exact ⟨rfl, rfl⟩)); (with_reducible first | exact fun w => NX.out w | exact fun w => NY.out w | exact fun w => NZ.out w); exact hq; clear hp hq; (try clear w1); intro w1 hp hq; simp only [zp, zq, z0, z1])
        (with_reducible apply sd_b2)
        · skip
          ((with_reducible apply sd_l); exact zo rfl)
          ((with_reducible apply sd_call hp); exact rfl; (focus (intro _; go_simp; try first | with_reducible rfl | exact ⟨rfl, rfl⟩)); (with_reducible first | exact fun w => NX.out w | exact fun w => NY.out w | exact fun w => NZ.out w); exact hq; clear hp hq; (try clear w1); intro w1 hp hq; simp only [zp, zq, z0, z1])
          (with_reducible apply sd_b2)
          · skip
            ((with_reducible apply sd_l); exact zo rfl)
            ((with_reducible apply sd_call hp); exact rfl; (focus (intro _; go_simp; try first | with_reducible rfl | exact ⟨rfl, rfl⟩)); (with_reducible first | exact fun w => NX.out w | exact fun w => NY.out w | exact fun w => NZ.out w); exact hq; clear hp hq; (try clear w1); intro w1 hp hq; simp only [zp, zq, z0, z1])
            ((with_reducible apply sd_q); exact zo rfl)
            ((with_reducible apply sd_pure hp); exact rfl; (focus (intro _; go_simp; (try go_ints); try with_reducible rfl)); simp only [zp, zq, z0, z1])
            ((with_reducible apply sd_l); exact zo rfl)
            ((with_reducible apply sd_alloc hq); (repeat (first | exact List.Sublist.refl _ | apply List.Sublist.cons)); exact rfl; infer_instance; exact rfl; clear hp hq; (try clear w1); intro g w1 hp hq; simp only [zp, zq, z0, z1])
            ((with_reducible apply sd_l); exact zo rfl)
            (first
      | ((with_reducible apply sd_store_far hq); exact rfl; exact zt rfl; exact za rfl; exact rfl; (first | exact AggTy.size | exact OneTy.size); exact rfl; infer_instance; (first | (with_reducible exact LB_set (by omega)) | (simp only [n0, Nat.reduceAdd, n1, n2, n3, n4, n5, n6, n7, n8, n9]; try rfl)); (first | exact zl rfl | exact LB_le (by omega)); exact rfl; infer_instance; (repeat (first | exact List.Sublist.refl _ | apply List.Sublist.cons)); clear hp hq; (try clear w1); intro w1 hp hq)
      | ((with_reducible apply sd_store hq); exact rfl; exact zt rfl; exact za rfl; exact rfl; (first | exact AggTy.size | exact OneTy.size); exact rfl; infer_instance; (first | (with_reducible exact LB_set (by omega)) | (simp only [n0, Nat.reduceAdd, n1, n2, n3, n4, n5, n6, n7, n8, n9]; try rfl)); (first | exact zl rfl | exact LB_le (by omega)); exact rfl; infer_instance; exact rfl; clear hp hq; (try clear w1); intro w1 hq; have hp := True.intro))
            (with_reducible apply sd_nil)
            clear hp; have hp := hq; clear hq
            (go_wp2_with fail; go_meet; exact ⟨_, rfl, hp⟩)
          · skip
            ((with_reducible apply sd_l); exact zo rfl)
            ((with_reducible apply sd_alloc hq); (repeat (first | exact List.Sublist.refl _ | apply List.Sublist.cons)); exact rfl; infer_instance; exact rfl; clear hp hq; (try clear w1); intro g w1 hp hq; simp only [zp, zq, z0, z1])
            ((with_reducible apply sd_l); exact zo rfl)
            ((with_reducible apply sd_call hp); exact rfl; (focus (intro _; go_simp; try first | with_reducible rfl | exact ⟨rfl, rfl⟩)); (with_reducible first | exact fun w => NX.out w | exact fun w => NY.out w | exact fun w => NZ.out w); exact hq; clear hp hq; (try clear w1); intro w1 hp hq; simp only [zp, zq, z0, z1])
            ((with_reducible apply sd_q); exact zo rfl)
            ((with_reducible apply sd_pure hp); exact rfl; (focus (intro _; go_simp; (try go_ints); try with_reducible rfl)); simp only [zp, zq, z0, z1])
            ((with_reducible apply sd_l); exact zo rfl)
            (first
      | ((with_reducible apply sd_store_far hq); exact rfl; exact zt rfl; exact za rfl; exact rfl; (first | exact AggTy.size | exact OneTy.size); exact rfl; infer_instance; (first | (with_reducible exact LB_set (by omega)) | (simp only [n0, Nat.reduceAdd, n1, n2, n3, n4, n5, n6, n7, n8, n9]; try rfl)); (first | exact zl rfl | exact LB_le (by omega)); exact rfl; infer_instance; (repeat (first | exact List.Sublist.refl _ | apply List.Sublist.cons)); clear hp hq; (try clear w1); intro w1 hp hq)
      | ((with_reducible apply sd_store hq); exact rfl; exact zt rfl; exact za rfl; exact rfl; (first | exact AggTy.size | exact OneTy.size); exact rfl; infer_instance; (first | (with_reducible exact LB_set (by omega)) | (simp only [n0, Nat.reduceAdd, n1, n2, n3, n4, n5, n6, n7, n8, n9]; try rfl)); (first | exact zl rfl | exact LB_le (by omega)); exact rfl; infer_instance; exact rfl; clear hp hq; (try clear w1); intro w1 hq; have hp := True.intro))
            (with_reducible apply sd_nil)
            clear hp; have hp := hq; clear hq
            (go_wp2_with fail; go_meet; exact ⟨_, rfl, hp⟩)
        · skip
          ((with_reducible apply sd_l); exact zo rfl)
          ((with_reducible apply sd_alloc hq); (repeat (first | exact List.Sublist.refl _ | apply List.Sublist.cons)); exact rfl; infer_instance; exact rfl; clear hp hq; (try clear w1); intro g w1 hp hq; simp only [zp, zq, z0, z1])
          ((with_reducible apply sd_l); exact zo rfl)
          ((with_reducible apply sd_call hp); exact rfl; (focus (intro _; go_simp; try first | with_reducible rfl | exact ⟨rfl, rfl⟩)); (with_reducible first | exact fun w => NX.out w | exact fun w => NY.out w | exact fun w => NZ.out w); exact hq; clear hp hq; (try clear w1); intro w1 hp hq; simp only [zp, zq, z0, z1])
          ((with_reducible apply sd_l); exact zo rfl)
          ((with_reducible apply sd_call hp); exact rfl; (focus (intro _; go_simp; try first | with_reducible rfl | exact ⟨rfl, rfl⟩)); (with_reducible first | exact fun w => NX.out w | exact fun w => NY.out w | exact fun w => NZ.out w); exact hq; clear hp hq; (try clear w1); intro w1 hp hq; simp only [zp, zq, z0, z1])
          ((with_reducible apply sd_q); exact zo rfl)
          ((with_reducible apply sd_pure hp); exact rfl; (focus (intro _; go_simp; (try go_ints); try with_reducible rfl)); simp only [zp, zq, z0, z1])
          ((with_reducible apply sd_l); exact zo rfl)
          (first
      | ((with_reducible apply sd_store_far hq); exact rfl; exact zt rfl; exact za rfl; exact rfl; (first | exact AggTy.size | exact OneTy.size); exact rfl; infer_instance; (first | (with_reducible exact LB_set (by omega)) | (simp only [n0, Nat.reduceAdd, n1, n2, n3, n4, n5, n6, n7, n8, n9]; try rfl)); (first | exact zl rfl | exact LB_le (by omega)); exact rfl; infer_instance; (repeat (first | exact List.Sublist.refl _ | apply List.Sublist.cons)); clear hp hq; (try clear w1); intro w1 hp hq)
      | ((with_reducible apply sd_store hq); exact rfl; exact zt rfl; exact za rfl; exact rfl; (first | exact AggTy.size | exact OneTy.size); exact rfl; infer_instance; (first | (with_reducible exact LB_set (by omega)) | (simp only [n0, Nat.reduceAdd, n1, n2, n3, n4, n5, n6, n7, n8, n9]; try rfl)); (first | exact zl rfl | exact LB_le (by omega)); exact rfl; infer_instance; exact rfl; clear hp hq; (try clear w1); intro w1 hq; have hp := True.intro))
          (with_reducible apply sd_nil)
          clear hp; have hp := hq; clear hq
          (go_wp2_with fail; go_meet; exact ⟨_, rfl, hp⟩)
      · skip
        ((with_reducible apply sd_l); exact zo rfl)
        ((with_reducible apply sd_alloc hq); (repeat (first | exact List.Sublist.refl _ | apply List.Sublist.cons)); exact rfl; infer_instance; exact rfl; clear hp hq; (try clear w1); intro g w1 hp hq; simp only [zp, zq, z0, z1])
        ((with_reducible apply sd_l); exact zo rfl)
        ((with_reducible apply sd_call hp); exact rfl; (focus (intro _; go_simp; try first | with_reducible rfl | exact ⟨rfl, rfl⟩)); (with_reducible first | exact fun w => NX.out w | exact fun w => NY.out w | exact fun w => NZ.out w); exact hq; clear hp hq; (try clear w1); intro w1 hp hq; simp only [zp, zq, z0, z1])
        ((with_reducible apply sd_l); exact zo rfl)
        ((with_reducible apply sd_call hp); exact rfl; (focus (intro _; go_simp; try first | with_reducible rfl | exact ⟨rfl, rfl⟩)); (with_reducible first | exact fun w => NX.out w | exact fun w => NY.out w | exact fun w => NZ.out w); exact hq; clear hp hq; (try clear w1); intro w1 hp hq; simp only [zp, zq, z0, z1])
        ((with_reducible apply sd_l); exact zo rfl)
        ((with_reducible apply sd_call hp); exact rfl; (focus (intro _; go_simp; try first | with_reducible rfl | exact ⟨rfl, rfl⟩)); (with_reducible first | exact fun w => NX.out w | exact fun w => NY.out w | exact fun w => NZ.out w); exact hq; clear hp hq; (try clear w1); intro w1 hp hq; simp only [zp, zq, z0, z1])
        ((with_reducible apply sd_q); exact zo rfl)
        ((with_reducible apply sd_pure hp); exact rfl; (focus (intro _; go_simp; (try go_ints); try with_reducible rfl)); simp only [zp, zq, z0, z1])
        ((with_reducible apply sd_l); exact zo rfl)
        (first
      | ((with_reducible apply sd_store_far hq); exact rfl; exact zt rfl; exact za rfl; exact rfl; (first | exact AggTy.size | exact OneTy.size); exact rfl; infer_instance; (first | (with_reducible exact LB_set (by omega)) | (simp only [n0, Nat.reduceAdd, n1, n2, n3, n4, n5, n6, n7, n8, n9]; try rfl)); (first | exact zl rfl | exact LB_le (by omega)); exact rfl; infer_instance; (repeat (first | exact List.Sublist.refl _ | apply List.Sublist.cons)); clear hp hq; (try clear w1); intro w1 hp hq)
      | ((with_reducible apply sd_store hq); exact rfl; exact zt rfl; exact za rfl; exact rfl; (first | exact AggTy.size | exact OneTy.size); exact rfl; infer_instance; (first | (with_reducible exact LB_set (by omega)) | (simp only [n0, Nat.reduceAdd, n1, n2, n3, n4, n5, n6, n7, n8, n9]; try rfl)); (first | exact zl rfl | exact LB_le (by omega)); exact rfl; infer_instance; exact rfl; clear hp hq; (try clear w1); intro w1 hq; have hp := True.intro))
        (with_reducible apply sd_nil)
        clear hp; have hp := hq; clear hq
        (go_wp2_with fail; go_meet; exact ⟨_, rfl, hp⟩)
    case rest =>
      clear hp
      obtain ⟨g4, rfl, hp⟩ := hcut
      go_wp2_with (first
          | ((with_reducible apply sx_box hp); exact za rfl; exact rfl; clear hp; (try clear w1); intro g w1 hp; simp only [zp, zq, z0, z1])
          | ((with_reducible apply sx_alloc hp); infer_instance; exact rfl; clear hp; (try clear w1); intro g w1 hp; simp only [zp, zq, z0, z1])
          | ((with_reducible apply sx_load_agg hp); exact zt rfl; infer_instance; infer_instance; (first | exact zl rfl | exact LB_le (by omega)); (first | (with_reducible exact LB_set (by omega)) | (simp only [n0, Nat.reduceAdd, n1, n2, n3, n4, n5, n6, n7, n8, n9]; try rfl)); simp only [zp, zq, z0, z1])
          | ((with_reducible apply sx_load_one hp); exact zt rfl; infer_instance; infer_instance; (first | exact zio rfl | exact LB_get (by omega)); simp only [zp, zq, z0, z1])
          | ((with_reducible apply sx_store hp); exact zt rfl; exact za rfl; exact rfl; (first | exact AggTy.size | exact OneTy.size); exact rfl; infer_instance; (first | (with_reducible exact LB_set (by omega)) | (simp only [n0, Nat.reduceAdd, n1, n2, n3, n4, n5, n6, n7, n8, n9]; try rfl)); (first | exact zl rfl | exact LB_le (by omega)); exact rfl; infer_instance; clear hp; (try clear w1); intro w1 hp)
          | ((with_reducible refine sx_call hp (HC.out _) ?_); clear hp; (try clear w1); intro w1 hp))
      exact bodyPost_ret (results_two rfl ⟨_, rfl, run_load_agg hp (Nat.le_of_ble_eq_true rfl)⟩ rfl) rfl ⟨rfl, hp.keep⟩
  · rw [if_neg hm]
    simp only [if_neg hm] at hc
    generalize rnd x = p at *
    generalize rnd y = q at *
    generalize rnd z = r at *
    have HC := Lib.hid hc
    clear hc hm
    go_enter Try.func39, Try.ntmps39
    have hp := Hp.start [] w
    go_upto_region 1 with (first
          | ((with_reducible apply sx_box hp); (first | exact za rfl | exact zu rfl | exact zi rfl | exact zb rfl | exact zr rfl | exact zs rfl | exact zf rfl | exact zg rfl | exact zn rfl | exact zv rfl | exact zw rfl); exact rfl; clear hp; (try clear w1); intro g w1 hp; simp only [zp, zq, z0, z1])
          | ((with_reducible apply sx_alloc hp); infer_instance; exact rfl; clear hp; (try clear w1); intro g w1 hp; simp only [zp, zq, z0, z1]))
    rename_i ga K hK
    obtain ⟨gp, rfl⟩ : ∃ k : Nat, k = g := ⟨_, rfl⟩
    go_cut [4] (fun s4 wx => ∃ g4, s4 = .pointer (some ⟨g4, 0, none⟩) ∧ Hp [] w [⟨g4, 29, [.int .i64 p, .int .i64 q, .int .i64 r]⟩, ⟨gp, 29, [.int .i64 0, .int .i64 0, .int .i64 0]⟩, ⟨ga, 58, [.int .i64 x, .int .i64 y, .int .i64 z]⟩] wx)
    case first =>
      skip
      have hq := hp
      refine wp_drawn_hp hp hq [11] (.q 0 (.q 1 (.q 3 (.q 4 (.q 6 (.q 7 (.b2 2 (.b2 5 (.b2 8 (.q 9 (.l 10 (.l 11 .nil))) 10 (.l 8 (.q 9 (.l 11 .nil)))) 10 (.l 5 (.l 8 (.q 9 (.l 11 .nil))))) 10 (.l 2 (.l 5 (.l 8 (.q 9 (.l 11 .nil)))))))))))) (by kernel_rfl) (by kernel_rfl) ?_
      clear hp hq; (try clear w1); intro w1 hp hq
      ((with_reducible apply sd_q); exact zo rfl)
      ((with_reducible apply sd_pure hp); exact rfl; (focus (intro _; go_simp; (try go_ints); try with_reducible rfl)); simp only [zp, zq, z0, z1])
      ((with_reducible apply sd_q); exact zo rfl)
      ((with_reducible apply sd_load_one hp); exact rfl; exact zt rfl; infer_instance; infer_instance; (first | exact zio rfl | exact LB_get (by omega)); simp only [zp, zq, z0, z1])
      ((with_reducible apply sd_q); exact zo rfl)
      ((with_reducible apply sd_pure hp); exact rfl; (focus (intro _; go_simp; (try go_ints); try with_reducible rfl)); simp only [zp, zq, z0, z1])
      ((with_reducible apply sd_q); exact zo rfl)
      ((with_reducible apply sd_load_one hp); exact rfl; exact zt rfl; infer_instance; infer_instance; (first | exact zio rfl | exact LB_get (by omega)); simp only [zp, zq, z0, z1])
      ((with_reducible apply sd_q); exact zo rfl)
      ((with_reducible apply sd_pure hp); exact rfl; (focus (intro _; go_simp; (try go_ints); try with_reducible rfl)); simp only [zp, zq, z0, z1])
      ((with_reducible apply sd_q); exact zo rfl)
      ((with_reducible apply sd_load_one hp); exact rfl; exact zt rfl; infer_instance; infer_instance; (first | exact zio rfl | exact LB_get (by omega)); simp only [zp, zq, z0, z1])
      (with_reducible apply sd_b2)
      · skip
        ((with_reducible apply sd_l); exact zo rfl)
        ((with_reducible apply sd_call hp); exact rfl; (focus (intro _; go_simp; try first | with_reducible rfl | exact ⟨rfl, rfl⟩)); (with_reducible first | exact fun w => NX.out w | exact fun w => NY.out w | exact fun w => NZ.out w); exact hq; clear hp hq; (try clear w1); intro w1 hp hq; simp only [zp, zq, z0, z1])
        (with_reducible apply sd_b2)
        · skip
          ((with_reducible apply sd_l); exact zo rfl)
          ((with_reducible apply sd_call hp); exact rfl; (focus (intro _; go_simp; try first | with_reducible rfl | exact ⟨rfl, rfl⟩)); (with_reducible first | exact fun w => NX.out w | exact fun w => NY.out w | exact fun w => NZ.out w); exact hq; clear hp hq; (try clear w1); intro w1 hp hq; simp only [zp, zq, z0, z1])
          (with_reducible apply sd_b2)
          · skip
            ((with_reducible apply sd_l); exact zo rfl)
            ((with_reducible apply sd_call hp); exact rfl; (focus (intro _; go_simp; try first | with_reducible rfl | exact ⟨rfl, rfl⟩)); (with_reducible first | exact fun w => NX.out w | exact fun w => NY.out w | exact fun w => NZ.out w); exact hq; clear hp hq; (try clear w1); intro w1 hp hq; simp only [zp, zq, z0, z1])
            ((with_reducible apply sd_q); exact zo rfl)
            ((with_reducible apply sd_pure hp); exact rfl; (focus (intro _; go_simp; (try go_ints); try with_reducible rfl)); simp only [zp, zq, z0, z1])
            ((with_reducible apply sd_l); exact zo rfl)
            ((with_reducible apply sd_alloc hq); (repeat (first | exact List.Sublist.refl _ | apply List.Sublist.cons)); exact rfl; infer_instance; exact rfl; clear hp hq; (try clear w1); intro g w1 hp hq; simp only [zp, zq, z0, z1])
            ((with_reducible apply sd_l); exact zo rfl)
            (first
      | ((with_reducible apply sd_store_far hq); exact rfl; exact zt rfl; exact za rfl; exact rfl; (first | exact AggTy.size | exact OneTy.size); exact rfl; infer_instance; (first | (with_reducible exact LB_set (by omega)) | (simp only [n0, Nat.reduceAdd, n1, n2, n3, n4, n5, n6, n7, n8, n9]; try rfl)); (first | exact zl rfl | exact LB_le (by omega)); exact rfl; infer_instance; (repeat (first | exact List.Sublist.refl _ | apply List.Sublist.cons)); clear hp hq; (try clear w1); intro w1 hp hq)
      | ((with_reducible apply sd_store hq); exact rfl; exact zt rfl; exact za rfl; exact rfl; (first | exact AggTy.size | exact OneTy.size); exact rfl; infer_instance; (first | (with_reducible exact LB_set (by omega)) | (simp only [n0, Nat.reduceAdd, n1, n2, n3, n4, n5, n6, n7, n8, n9]; try rfl)); (first | exact zl rfl | exact LB_le (by omega)); exact rfl; infer_instance; exact rfl; clear hp hq; (try clear w1); intro w1 hq; have hp := True.intro))
            (with_reducible apply sd_nil)
            clear hp; have hp := hq; clear hq
            (go_wp2_with fail; go_meet; exact ⟨_, rfl, hp⟩)
          · skip
            ((with_reducible apply sd_l); exact zo rfl)
            ((with_reducible apply sd_alloc hq); (repeat (first | exact List.Sublist.refl _ | apply List.Sublist.cons)); exact rfl; infer_instance; exact rfl; clear hp hq; (try clear w1); intro g w1 hp hq; simp only [zp, zq, z0, z1])
            ((with_reducible apply sd_l); exact zo rfl)
            ((with_reducible apply sd_call hp); exact rfl; (focus (intro _; go_simp; try first | with_reducible rfl | exact ⟨rfl, rfl⟩)); (with_reducible first | exact fun w => NX.out w | exact fun w => NY.out w | exact fun w => NZ.out w); exact hq; clear hp hq; (try clear w1); intro w1 hp hq; simp only [zp, zq, z0, z1])
            ((with_reducible apply sd_q); exact zo rfl)
            ((with_reducible apply sd_pure hp); exact rfl; (focus (intro _; go_simp; (try go_ints); try with_reducible rfl)); simp only [zp, zq, z0, z1])
            ((with_reducible apply sd_l); exact zo rfl)
            (first
      | ((with_reducible apply sd_store_far hq); exact rfl; exact zt rfl; exact za rfl; exact rfl; (first | exact AggTy.size | exact OneTy.size); exact rfl; infer_instance; (first | (with_reducible exact LB_set (by omega)) | (simp only [n0, Nat.reduceAdd, n1, n2, n3, n4, n5, n6, n7, n8, n9]; try rfl)); (first | exact zl rfl | exact LB_le (by omega)); exact rfl; infer_instance; (repeat (first | exact List.Sublist.refl _ | apply List.Sublist.cons)); clear hp hq; (try clear w1); intro w1 hp hq)
      | ((with_reducible apply sd_store hq); exact rfl; exact zt rfl; exact za rfl; exact rfl; (first | exact AggTy.size | exact OneTy.size); exact rfl; infer_instance; (first | (with_reducible exact LB_set (by omega)) | (simp only [n0, Nat.reduceAdd, n1, n2, n3, n4, n5, n6, n7, n8, n9]; try rfl)); (first | exact zl rfl | exact LB_le (by omega)); exact rfl; infer_instance; exact rfl; clear hp hq; (try clear w1); intro w1 hq; have hp := True.intro))
            (with_reducible apply sd_nil)
            clear hp; have hp := hq; clear hq
            (go_wp2_with fail; go_meet; exact ⟨_, rfl, hp⟩)
        · skip
          ((with_reducible apply sd_l); exact zo rfl)
          ((with_reducible apply sd_alloc hq); (repeat (first | exact List.Sublist.refl _ | apply List.Sublist.cons)); exact rfl; infer_instance; exact rfl; clear hp hq; (try clear w1); intro g w1 hp hq; simp only [zp, zq, z0, z1])
          ((with_reducible apply sd_l); exact zo rfl)
          ((with_reducible apply sd_call hp); exact rfl; (focus (intro _; go_simp; try first | with_reducible rfl | exact ⟨rfl, rfl⟩)); (with_reducible first | exact fun w => NX.out w | exact fun w => NY.out w | exact fun w => NZ.out w); exact hq; clear hp hq; (try clear w1); intro w1 hp hq; simp only [zp, zq, z0, z1])
          ((with_reducible apply sd_l); exact zo rfl)
          ((with_reducible apply sd_call hp); exact rfl; (focus (intro _; go_simp; try first | with_reducible rfl | exact ⟨rfl, rfl⟩)); (with_reducible first | exact fun w => NX.out w | exact fun w => NY.out w | exact fun w => NZ.out w); exact hq; clear hp hq; (try clear w1); intro w1 hp hq; simp only [zp, zq, z0, z1])
          ((with_reducible apply sd_q); exact zo rfl)
          ((with_reducible apply sd_pure hp); exact rfl; (focus (intro _; go_simp; (try go_ints); try with_reducible rfl)); simp only [zp, zq, z0, z1])
          ((with_reducible apply sd_l); exact zo rfl)
          (first
      | ((with_reducible apply sd_store_far hq); exact rfl; exact zt rfl; exact za rfl; exact rfl; (first | exact AggTy.size | exact OneTy.size); exact rfl; infer_instance; (first | (with_reducible exact LB_set (by omega)) | (simp only [n0, Nat.reduceAdd, n1, n2, n3, n4, n5, n6, n7, n8, n9]; try rfl)); (first | exact zl rfl | exact LB_le (by omega)); exact rfl; infer_instance; (repeat (first | exact List.Sublist.refl _ | apply List.Sublist.cons)); clear hp hq; (try clear w1); intro w1 hp hq)
      | ((with_reducible apply sd_store hq); exact rfl; exact zt rfl; exact za rfl; exact rfl; (first | exact AggTy.size | exact OneTy.size); exact rfl; infer_instance; (first | (with_reducible exact LB_set (by omega)) | (simp only [n0, Nat.reduceAdd, n1, n2, n3, n4, n5, n6, n7, n8, n9]; try rfl)); (first | exact zl rfl | exact LB_le (by omega)); exact rfl; infer_instance; exact rfl; clear hp hq; (try clear w1); intro w1 hq; have hp := True.intro))
          (with_reducible apply sd_nil)
          clear hp; have hp := hq; clear hq
          (go_wp2_with fail; go_meet; exact ⟨_, rfl, hp⟩)
      · skip
        ((with_reducible apply sd_l); exact zo rfl)
        ((with_reducible apply sd_alloc hq); (repeat (first | exact List.Sublist.refl _ | apply List.Sublist.cons)); exact rfl; infer_instance; exact rfl; clear hp hq; (try clear w1); intro g w1 hp hq; simp only [zp, zq, z0, z1])
        ((with_reducible apply sd_l); exact zo rfl)
        ((with_reducible apply sd_call hp); exact rfl; (focus (intro _; go_simp; try first | with_reducible rfl | exact ⟨rfl, rfl⟩)); (with_reducible first | exact fun w => NX.out w | exact fun w => NY.out w | exact fun w => NZ.out w); exact hq; clear hp hq; (try clear w1); intro w1 hp hq; simp only [zp, zq, z0, z1])
        ((with_reducible apply sd_l); exact zo rfl)
        ((with_reducible apply sd_call hp); exact rfl; (focus (intro _; go_simp; try first | with_reducible rfl | exact ⟨rfl, rfl⟩)); (with_reducible first | exact fun w => NX.out w | exact fun w => NY.out w | exact fun w => NZ.out w); exact hq; clear hp hq; (try clear w1); intro w1 hp hq; simp only [zp, zq, z0, z1])
        ((with_reducible apply sd_l); exact zo rfl)
        ((with_reducible apply sd_call hp); exact rfl; (focus (intro _; go_simp; try first | with_reducible rfl | exact ⟨rfl, rfl⟩)); (with_reducible first | exact fun w => NX.out w | exact fun w => NY.out w | exact fun w => NZ.out w); exact hq; clear hp hq; (try clear w1); intro w1 hp hq; simp only [zp, zq, z0, z1])
        ((with_reducible apply sd_q); exact zo rfl)
        ((with_reducible apply sd_pure hp); exact rfl; (focus (intro _; go_simp; (try go_ints); try with_reducible rfl)); simp only [zp, zq, z0, z1])
        ((with_reducible apply sd_l); exact zo rfl)
        (first
      | ((with_reducible apply sd_store_far hq); exact rfl; exact zt rfl; exact za rfl; exact rfl; (first | exact AggTy.size | exact OneTy.size); exact rfl; infer_instance; (first | (with_reducible exact LB_set (by omega)) | (simp only [n0, Nat.reduceAdd, n1, n2, n3, n4, n5, n6, n7, n8, n9]; try rfl)); (first | exact zl rfl | exact LB_le (by omega)); exact rfl; infer_instance; (repeat (first | exact List.Sublist.refl _ | apply List.Sublist.cons)); clear hp hq; (try clear w1); intro w1 hp hq)
      | ((with_reducible apply sd_store hq); exact rfl; exact zt rfl; exact za rfl; exact rfl; (first | exact AggTy.size | exact OneTy.size); exact rfl; infer_instance; (first | (with_reducible exact LB_set (by omega)) | (simp only [n0, Nat.reduceAdd, n1, n2, n3, n4, n5, n6, n7, n8, n9]; try rfl)); (first | exact zl rfl | exact LB_le (by omega)); exact rfl; infer_instance; exact rfl; clear hp hq; (try clear w1); intro w1 hq; have hp := True.intro))
        (with_reducible apply sd_nil)
        clear hp; have hp := hq; clear hq
        (go_wp2_with fail; go_meet; exact ⟨_, rfl, hp⟩)
    case rest =>
      clear hp
      obtain ⟨g4, rfl, hp⟩ := hcut
      go_wp2_with (first
          | ((with_reducible apply sx_box hp); exact za rfl; exact rfl; clear hp; (try clear w1); intro g w1 hp; simp only [zp, zq, z0, z1])
          | ((with_reducible apply sx_alloc hp); infer_instance; exact rfl; clear hp; (try clear w1); intro g w1 hp; simp only [zp, zq, z0, z1])
          | ((with_reducible apply sx_load_agg hp); exact zt rfl; infer_instance; infer_instance; (first | exact zl rfl | exact LB_le (by omega)); (first | (with_reducible exact LB_set (by omega)) | (simp only [n0, Nat.reduceAdd, n1, n2, n3, n4, n5, n6, n7, n8, n9]; try rfl)); simp only [zp, zq, z0, z1])
          | ((with_reducible apply sx_load_one hp); exact zt rfl; infer_instance; infer_instance; (first | exact zio rfl | exact LB_get (by omega)); simp only [zp, zq, z0, z1])
          | ((with_reducible apply sx_store hp); exact zt rfl; exact za rfl; exact rfl; (first | exact AggTy.size | exact OneTy.size); exact rfl; infer_instance; (first | (with_reducible exact LB_set (by omega)) | (simp only [n0, Nat.reduceAdd, n1, n2, n3, n4, n5, n6, n7, n8, n9]; try rfl)); (first | exact zl rfl | exact LB_le (by omega)); exact rfl; infer_instance; clear hp; (try clear w1); intro w1 hp)
          | ((with_reducible refine sx_call hp (HC.out _) ?_); clear hp; (try clear w1); intro w1 hp))
      exact bodyPost_ret (results_two rfl ⟨_, rfl, run_load_agg hp (Nat.le_of_ble_eq_true rfl)⟩ rfl) rfl ⟨rfl, hp.keep⟩
set_option maxHeartbeats 4000000 in
theorem round_core (v p a b : P3) (e c : Int)
    (R1 : Hid (∀ w, Calls Try.prog 38 #[PV v] w (Ret (.tuple #[PV a, .int .i64 e]) w)))
    (R2 : Hid (∀ w, Calls Try.prog 39 #[PV v] w (Ret (.tuple #[PV a, .int .i64 e]) w)))
    (V1 : Hid (∀ w, Calls Try.prog 40 #[PV p] w (Ret (PV b) w)))
    (V2 : Hid (∀ w, Calls Try.prog 41 #[PV p] w (Ret (PV b) w)))
    (C1 : Hid (∀ w, Calls Try.prog 42 #[PV p] w (Ret (.int .i64 c) w)))
    (C2 : Hid (∀ w, Calls Try.prog 43 #[PV p] w (Ret (.int .i64 c) w))) (w : World) :
    Calls Try.prog 12 #[PV v, PV p] w (Ret (.bool true) w) := by
  go_enter Try.func12, Try.ntmps12
  have hp := Hp.start [] w
  go_wp2_with (first
          | ((with_reducible apply sx_box hp); exact za rfl; exact rfl; clear hp; (try clear w1); intro g w1 hp; simp only [zp, zq, z0, z1])
          | ((with_reducible apply sx_alloc hp); infer_instance; exact rfl; clear hp; (try clear w1); intro g w1 hp; simp only [zp, zq, z0, z1])
          | ((with_reducible apply sx_load_agg hp); exact zt rfl; infer_instance; infer_instance; (first | exact zl rfl | exact LB_le (by omega)); (first | (with_reducible exact LB_set (by omega)) | (simp only [n0, Nat.reduceAdd, n1, n2, n3, n4, n5, n6, n7, n8, n9]; try rfl)); simp only [zp, zq, z0, z1])
          | ((with_reducible apply sx_store hp); exact zt rfl; exact za rfl; exact rfl; (first | exact AggTy.size | exact OneTy.size); exact rfl; infer_instance; (first | (with_reducible exact LB_set (by omega)) | (simp only [n0, Nat.reduceAdd, n1, n2, n3, n4, n5, n6, n7, n8, n9]; try rfl)); (first | exact zl rfl | exact LB_le (by omega)); exact rfl; infer_instance; clear hp; (try clear w1); intro w1 hp)
          | ((with_reducible first | refine sx_call hp (R1.out _) ?_ | refine sx_call hp (R2.out _) ?_); clear hp; (try clear w1); intro w1 hp))
  clear R1 R2
  have hq := hp
  refine wp_drawn_hp hp hq [] (.q 0 (.q 1 (.q 2 (.q 3 (.q 4 (.q 5 (.q 6 (.q 7 (.q 8 (.q 9 (.q 11 (.l 10 (.l 12 (.q 13 (.q 14 (.q 15 (.q 16 (.q 18 (.l 17 (.l 19 (.q 20 (.q 21 (.q 22 (.l 23 (.q 24 (.q 25 .nil)))))))))))))))))))))))))) (by kernel_rfl) (by kernel_rfl) ?_
  clear hp hq; (try clear w1); intro w1 hp hq
  ((with_reducible apply sd_q); exact zo rfl)
  ((with_reducible apply sd_load_agg hp); exact rfl; exact zt rfl; infer_instance; infer_instance; (first | exact zl rfl | exact LB_le (by omega)); (first | (with_reducible exact LB_set (by omega)) | (simp only [n0, Nat.reduceAdd, n1, n2, n3, n4, n5, n6, n7, n8, n9]; try rfl)); simp only [zp, zq, z0, z1])
  ((with_reducible apply sd_q); exact zo rfl)
  ((with_reducible apply sd_load_agg hp); exact rfl; exact zt rfl; infer_instance; infer_instance; (first | exact zl rfl | exact LB_le (by omega)); (first | (with_reducible exact LB_set (by omega)) | (simp only [n0, Nat.reduceAdd, n1, n2, n3, n4, n5, n6, n7, n8, n9]; try rfl)); simp only [zp, zq, z0, z1])
  ((with_reducible apply sd_q); exact zo rfl)
  ((with_reducible apply sd_pure hp); exact rfl; (focus (intro _; go_simp; (try go_ints); try with_reducible rfl)); simp only [zp, zq, z0, z1])
  ((with_reducible apply sd_q); exact zo rfl)
  ((with_reducible apply sd_move hp); exact zb rfl; simp only [zp, zq, z0, z1])
  ((with_reducible apply sd_q); exact zo rfl)
  (first
      | ((with_reducible apply sd_pure hp); exact rfl; (focus (intro _; go_simp; (try go_ints); try with_reducible rfl)); simp only [zp, zq, z0, z1])
      | ((with_reducible apply sd_skip hp); exact rfl; simp only [zp, zq, z0, z1]))
  ((with_reducible apply sd_q); exact zo rfl)
  (first
      | ((with_reducible apply sd_pure hp); exact rfl; (focus (intro _; go_simp; (try go_ints); try with_reducible rfl)); simp only [zp, zq, z0, z1])
      | ((with_reducible apply sd_skip hp); exact rfl; simp only [zp, zq, z0, z1]))
  ((with_reducible apply sd_q); exact zo rfl)
  (first
      | ((with_reducible apply sd_pure hp); exact rfl; (focus (intro _; go_simp; (try go_ints); try with_reducible rfl)); simp only [zp, zq, z0, z1])
      | ((with_reducible apply sd_skip hp); exact rfl; simp only [zp, zq, z0, z1]))
  ((with_reducible apply sd_q); exact zo rfl)
  ((with_reducible apply sd_pure hp); exact rfl; (focus (intro _; go_simp; (try go_ints); try with_reducible rfl)); simp only [zp, zq, z0, z1])
  ((with_reducible apply sd_q); exact zo rfl)
  ((with_reducible apply sd_move hp); exact zb rfl; simp only [zp, zq, z0, z1])
  ((with_reducible apply sd_q); exact zo rfl)
  (first
      | ((with_reducible apply sd_load_agg hp); exact rfl; exact zt rfl; infer_instance; infer_instance; (first | exact zl rfl | exact LB_le (by omega)); (first | (with_reducible exact LB_set (by omega)) | (simp only [n0, Nat.reduceAdd, n1, n2, n3, n4, n5, n6, n7, n8, n9]; try rfl)); simp only [zp, zq, z0, z1])
      | ((with_reducible apply sd_skip hp); exact rfl; simp only [zp, zq, z0, z1]))
  ((with_reducible apply sd_q); exact zo rfl)
  (first
      | ((with_reducible apply sd_load_agg hp); exact rfl; exact zt rfl; infer_instance; infer_instance; (first | exact zl rfl | exact LB_le (by omega)); (first | (with_reducible exact LB_set (by omega)) | (simp only [n0, Nat.reduceAdd, n1, n2, n3, n4, n5, n6, n7, n8, n9]; try rfl)); simp only [zp, zq, z0, z1])
      | ((with_reducible apply sd_skip hp); exact rfl; simp only [zp, zq, z0, z1]))
  ((with_reducible apply sd_l); exact zo rfl)
  (first
      | ((with_reducible apply sd_call hp); exact rfl; (focus (intro _; go_simp; try first | with_reducible rfl | exact ⟨rfl, rfl⟩)); (with_reducible first | exact fun w => V1.out w | exact fun w => V2.out w | exact fun w => C1.out w | exact fun w => C2.out w | exact fun w => awake6 w); exact hq; clear hp hq; (try clear w1); intro w1 hp hq; simp only [zp, zq, z0, z1])
      | ((with_reducible apply sd_skip_loud hp); exact rfl; simp only [zp, zq, z0, z1]))
  ((with_reducible apply sd_l); exact zo rfl)
  (first
      | ((with_reducible apply sd_call hp); exact rfl; (focus (intro _; go_simp; try first | with_reducible rfl | exact ⟨rfl, rfl⟩)); (with_reducible first | exact fun w => V1.out w | exact fun w => V2.out w | exact fun w => C1.out w | exact fun w => C2.out w | exact fun w => awake6 w); exact hq; clear hp hq; (try clear w1); intro w1 hp hq; simp only [zp, zq, z0, z1])
      | ((with_reducible apply sd_skip_loud hp); exact rfl; simp only [zp, zq, z0, z1]))
  ((with_reducible apply sd_q); exact zo rfl)
  (first
      | ((with_reducible apply sd_pure hp); exact rfl; (focus (intro _; go_simp; (try go_ints); try with_reducible rfl)); simp only [zp, zq, z0, z1])
      | ((with_reducible apply sd_skip hp); exact rfl; simp only [zp, zq, z0, z1]))
  ((with_reducible apply sd_q); exact zo rfl)
  ((with_reducible apply sd_pure hp); exact rfl; (focus (intro _; go_simp; (try go_ints); try with_reducible rfl)); simp only [zp, zq, z0, z1])
  ((with_reducible apply sd_q); exact zo rfl)
  ((with_reducible apply sd_move hp); exact zb rfl; simp only [zp, zq, z0, z1])
  ((with_reducible apply sd_q); exact zo rfl)
  (first
      | ((with_reducible apply sd_load_agg hp); exact rfl; exact zt rfl; infer_instance; infer_instance; (first | exact zl rfl | exact LB_le (by omega)); (first | (with_reducible exact LB_set (by omega)) | (simp only [n0, Nat.reduceAdd, n1, n2, n3, n4, n5, n6, n7, n8, n9]; try rfl)); simp only [zp, zq, z0, z1])
      | ((with_reducible apply sd_skip hp); exact rfl; simp only [zp, zq, z0, z1]))
  ((with_reducible apply sd_q); exact zo rfl)
  (first
      | ((with_reducible apply sd_load_agg hp); exact rfl; exact zt rfl; infer_instance; infer_instance; (first | exact zl rfl | exact LB_le (by omega)); (first | (with_reducible exact LB_set (by omega)) | (simp only [n0, Nat.reduceAdd, n1, n2, n3, n4, n5, n6, n7, n8, n9]; try rfl)); simp only [zp, zq, z0, z1])
      | ((with_reducible apply sd_skip hp); exact rfl; simp only [zp, zq, z0, z1]))
  ((with_reducible apply sd_l); exact zo rfl)
  (first
      | ((with_reducible apply sd_call hp); exact rfl; (focus (intro _; go_simp; try first | with_reducible rfl | exact ⟨rfl, rfl⟩)); (with_reducible first | exact fun w => V1.out w | exact fun w => V2.out w | exact fun w => C1.out w | exact fun w => C2.out w | exact fun w => awake6 w); exact hq; clear hp hq; (try clear w1); intro w1 hp hq; simp only [zp, zq, z0, z1])
      | ((with_reducible apply sd_skip_loud hp); exact rfl; simp only [zp, zq, z0, z1]))
  ((with_reducible apply sd_l); exact zo rfl)
  (first
      | ((with_reducible apply sd_call hp); exact rfl; (focus (intro _; go_simp; try first | with_reducible rfl | exact ⟨rfl, rfl⟩)); (with_reducible first | exact fun w => V1.out w | exact fun w => V2.out w | exact fun w => C1.out w | exact fun w => C2.out w | exact fun w => awake6 w); exact hq; clear hp hq; (try clear w1); intro w1 hp hq; simp only [zp, zq, z0, z1])
      | ((with_reducible apply sd_skip_loud hp); exact rfl; simp only [zp, zq, z0, z1]))
  ((with_reducible apply sd_q); exact zo rfl)
  (first
      | ((with_reducible apply sd_pure hp); exact rfl; (focus (intro _; go_simp; (try go_ints); try with_reducible rfl)); simp only [zp, zq, z0, z1])
      | ((with_reducible apply sd_skip hp); exact rfl; simp only [zp, zq, z0, z1]))
  ((with_reducible apply sd_q); exact zo rfl)
  ((with_reducible apply sd_pure hp); exact rfl; (focus (intro _; go_simp; (try go_ints); try with_reducible rfl)); simp only [zp, zq, z0, z1])
  ((with_reducible apply sd_q); exact zo rfl)
  ((with_reducible apply sd_move hp); exact zb rfl; simp only [zp, zq, z0, z1])
  ((with_reducible apply sd_l); exact zo rfl)
  (first
      | ((with_reducible apply sd_call hp); exact rfl; (focus (intro _; go_simp; try first | with_reducible rfl | exact ⟨rfl, rfl⟩)); (with_reducible first | exact fun w => V1.out w | exact fun w => V2.out w | exact fun w => C1.out w | exact fun w => C2.out w | exact fun w => awake6 w); exact hq; clear hp hq; (try clear w1); intro w1 hp hq; simp only [zp, zq, z0, z1])
      | ((with_reducible apply sd_skip_loud hp); exact rfl; simp only [zp, zq, z0, z1]))
  ((with_reducible apply sd_q); exact zo rfl)
  ((with_reducible apply sd_pure hp); exact rfl; (focus (intro _; go_simp; (try go_ints); try with_reducible rfl)); simp only [zp, zq, z0, z1])
  ((with_reducible apply sd_q); exact zo rfl)
  ((with_reducible apply sd_assign hp); exact zb rfl; simp only [zp, zq, z0, z1])
  (with_reducible apply sd_nil)
  clear hp; have hp := hq; clear hq
  go_wp2
  exact bodyPost_ret (results_one rfl rfl) rfl ⟨rfl, hp.keep⟩
theorem round_law (v : P3) (hv : v.i64) (p : P3) (hp : p.i64) (w : World) : Calls Try.prog 12 #[PV v, PV p] w (Ret (.bool true) w) := by
  obtain ⟨h1, h2, h3⟩ := hv
  have r1 := fun w => round_any v.x v.y v.z h1 h2 h3 w
  have r2 := fun w => rround_any v.x v.y v.z h1 h2 h3 w
  have key : ∃ a : P3, ∃ e : Int, rndV v.x v.y v.z = .tuple #[PV a, .int .i64 e] := by
    unfold rndV
    split
    · exact ⟨_, _, rfl⟩
    · exact ⟨_, _, rfl⟩
  obtain ⟨a, e, he⟩ := key
  rw [he] at r1 r2
  exact round_core v p a p.rv e _ (Lib.hid r1) (Lib.hid r2) (Lib.hid fun w => value_any p hp w) (Lib.hid fun w => rvalue_any p hp w) (Lib.hid fun w => check_any p w) (Lib.hid fun w => rcheck_any p w) w
end Go.Proofs.Ytbhlnbllkoomfaa
