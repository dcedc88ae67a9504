/-
  ninepinlaw06.GridOrder (contract).
-/
import Derived.Test.YtbhlnbllkoomfaaFc
import Derived.Test.YtbhlnbllkoomfaaEd
import Derived.Test.YtbhlnbllkoomfaaFg
set_option linter.unusedSimpArgs false
set_option linter.unusedVariables false
set_option maxRecDepth 100000
namespace Go.Proofs.Ytbhlnbllkoomfaa
open Go Go.RowKit

set_option maxHeartbeats 1000000 in
theorem sum_any (a b : P3) (p q r : Int) (hx : a.x + b.x = p) (hy : a.y + b.y = q) (hz : a.z + b.z = r) (h : I64 p ∧ I64 q ∧ I64 r) (w : World) : Calls Try.prog 33 #[PV a, PV b] w (Ret (.agg #[.int .i64 p, .int .i64 q, .int .i64 r]) w) := by
  obtain ⟨ax, ay, az⟩ := a
  obtain ⟨bx, by', bz⟩ := b
  dsimp only at hx hy hz
  subst hx hy hz
  obtain ⟨h1, h2, h3⟩ := h
  unfold I64 at h1 h2 h3
  go_enter Try.func33, Try.ntmps33
  have hp := Hp.start [] w
  go_wp2_with (first
          | ((with_reducible apply sx_box hp); exact za rfl; exact rfl; clear hp; (try clear w1); intro g w1 hp; simp only [zp, zq, z0, z1])
          | ((with_reducible apply sx_alloc hp); infer_instance; exact rfl; clear hp; (try clear w1); intro g w1 hp; simp only [zp, zq, z0, z1])
          | ((with_reducible apply sx_load_one hp); exact zt rfl; infer_instance; infer_instance; (first | exact zio rfl | exact LB_get (by omega)); simp only [zp, zq, z0, z1])
          | ((with_reducible apply sx_store hp); exact zt rfl; exact za rfl; exact rfl; (first | exact AggTy.size | exact OneTy.size); exact rfl; infer_instance; (first | (with_reducible exact LB_set (by omega)) | (simp only [n0, Nat.reduceAdd, n1, n2, n3, n4, n5, n6, n7, n8, n9]; try rfl)); (first | exact zl rfl | exact LB_le (by omega)); exact rfl; infer_instance; clear hp; (try clear w1); intro w1 hp))
  exact bodyPost_ret (results_one rfl ⟨_, rfl, run_load_agg hp (Nat.le_of_ble_eq_true rfl)⟩) rfl ⟨rfl, hp.keep⟩
theorem p3_neb {p a : P3} (h : p ≠ a) : (p.x == a.x && (p.y == a.y && p.z == a.z)) = false := by
  obtain ⟨px, py, pz⟩ := p
  obtain ⟨ax, ay, az⟩ := a
  rw [Bool.eq_false_iff]
  intro h2
  apply h
  simp at h2
  simp [h2]
set_option maxHeartbeats 16000000 in
theorem order_law (a : P3) (ha : a.i64) (b : P3) (hb : b.i64) (c : P3) (hc : c.i64) (w : World) : Calls Try.prog 11 #[PV a, PV b, PV c] w (Ret (.bool true) w) := by
  have C1 := Lib.hid (gcmp_any a b)
  have C2 := Lib.hid (gcmp_any b c)
  have C3 := Lib.hid (gcmp_any a c)
  have hc4 := gcmp_any b a
  have e4 : pcmp b a = -pcmp a b := pcmp_anti b a
  rw [e4] at hc4
  have C4 := Lib.hid hc4
  have HZ := Lib.hid (pcmp_zero a b)
  have HT := Lib.hid (@pcmp_trans a b c)
  have HX := Lib.hid (pcmp_range a b)
  have HY := Lib.hid (pcmp_range b c)
  have hl := glessp_any a b
  clear hc4 e4 hb hc
  generalize pcmp a b = x at *
  generalize pcmp b c = y at *
  generalize pcmp a c = z at *
  go_enter Try.func11, Try.ntmps11
  have hp := Hp.start [] w
  go_upto_region 1 with (first
          | ((with_reducible apply sx_box hp); (first | exact za rfl | exact zu rfl | exact zi rfl | exact zb rfl | exact zr rfl | exact zs rfl | exact zf rfl | exact zg rfl | exact zn rfl | exact zv rfl | exact zw rfl); exact rfl; clear hp; (try clear w1); intro g w1 hp; simp only [zp, zq, z0, z1])
          | ((with_reducible apply sx_alloc hp); infer_instance; exact rfl; clear hp; (try clear w1); intro g w1 hp; simp only [zp, zq, z0, z1]))
  rename_i ga gb K hK
  obtain ⟨gc, rfl⟩ : ∃ k : Nat, k = g := ⟨_, rfl⟩
  have hq := hp
  refine wp_drawn_hp hp hq [] (.q 0 (.q 1 (.q 3 (.q 4 (.q 6 (.q 7 (.l 2 (.l 5 (.l 8 (.q 9 (.q 10 (.q 11 .nil)))))))))))) (by kernel_rfl) (by kernel_rfl) ?_
  clear hp hq; (try clear w1); intro w1 hp hq
  ((with_reducible apply sd_q); exact zo rfl)
  ((with_reducible apply sd_load_agg hp); exact rfl; exact zt rfl; infer_instance; infer_instance; (first | exact zl rfl | exact LB_le (by omega)); (first | (with_reducible exact LB_set (by omega)) | (simp only [n0, Nat.reduceAdd, n1, n2, n3, n4, n5, n6, n7, n8, n9]; try rfl)); simp only [zp, zq, z0, z1])
  ((with_reducible apply sd_q); exact zo rfl)
  ((with_reducible apply sd_load_agg hp); exact rfl; exact zt rfl; infer_instance; infer_instance; (first | exact zl rfl | exact LB_le (by omega)); (first | (with_reducible exact LB_set (by omega)) | (simp only [n0, Nat.reduceAdd, n1, n2, n3, n4, n5, n6, n7, n8, n9]; try rfl)); simp only [zp, zq, z0, z1])
  ((with_reducible apply sd_q); exact zo rfl)
  ((with_reducible apply sd_load_agg hp); exact rfl; exact zt rfl; infer_instance; infer_instance; (first | exact zl rfl | exact LB_le (by omega)); (first | (with_reducible exact LB_set (by omega)) | (simp only [n0, Nat.reduceAdd, n1, n2, n3, n4, n5, n6, n7, n8, n9]; try rfl)); simp only [zp, zq, z0, z1])
  ((with_reducible apply sd_q); exact zo rfl)
  ((with_reducible apply sd_load_agg hp); exact rfl; exact zt rfl; infer_instance; infer_instance; (first | exact zl rfl | exact LB_le (by omega)); (first | (with_reducible exact LB_set (by omega)) | (simp only [n0, Nat.reduceAdd, n1, n2, n3, n4, n5, n6, n7, n8, n9]; try rfl)); simp only [zp, zq, z0, z1])
  ((with_reducible apply sd_q); exact zo rfl)
  ((with_reducible apply sd_load_agg hp); exact rfl; exact zt rfl; infer_instance; infer_instance; (first | exact zl rfl | exact LB_le (by omega)); (first | (with_reducible exact LB_set (by omega)) | (simp only [n0, Nat.reduceAdd, n1, n2, n3, n4, n5, n6, n7, n8, n9]; try rfl)); simp only [zp, zq, z0, z1])
  ((with_reducible apply sd_q); exact zo rfl)
  ((with_reducible apply sd_load_agg hp); exact rfl; exact zt rfl; infer_instance; infer_instance; (first | exact zl rfl | exact LB_le (by omega)); (first | (with_reducible exact LB_set (by omega)) | (simp only [n0, Nat.reduceAdd, n1, n2, n3, n4, n5, n6, n7, n8, n9]; try rfl)); simp only [zp, zq, z0, z1])
  ((with_reducible apply sd_l); exact zo rfl)
  ((with_reducible apply sd_call hp); exact rfl; (focus (intro _; go_simp; try first | with_reducible rfl | exact ⟨rfl, rfl⟩)); (with_reducible first | exact fun w => C1.out w | exact fun w => C2.out w | exact fun w => C3.out w); exact hq; clear hp hq; (try clear w1); intro w1 hp hq; simp only [zp, zq, z0, z1])
  ((with_reducible apply sd_l); exact zo rfl)
  ((with_reducible apply sd_call hp); exact rfl; (focus (intro _; go_simp; try first | with_reducible rfl | exact ⟨rfl, rfl⟩)); (with_reducible first | exact fun w => C1.out w | exact fun w => C2.out w | exact fun w => C3.out w); exact hq; clear hp hq; (try clear w1); intro w1 hp hq; simp only [zp, zq, z0, z1])
  ((with_reducible apply sd_l); exact zo rfl)
  ((with_reducible apply sd_call hp); exact rfl; (focus (intro _; go_simp; try first | with_reducible rfl | exact ⟨rfl, rfl⟩)); (with_reducible first | exact fun w => C1.out w | exact fun w => C2.out w | exact fun w => C3.out w); exact hq; clear hp hq; (try clear w1); intro w1 hp hq; simp only [zp, zq, z0, z1])
  ((with_reducible apply sd_q); exact zo rfl)
  ((with_reducible apply sd_assign hp); exact zi rfl; simp only [zp, zq, z0, z1])
  ((with_reducible apply sd_q); exact zo rfl)
  ((with_reducible apply sd_assign hp); exact zi rfl; simp only [zp, zq, z0, z1])
  ((with_reducible apply sd_q); exact zo rfl)
  ((with_reducible apply sd_assign hp); exact zi rfl; simp only [zp, zq, z0, z1])
  (with_reducible apply sd_nil)
  clear hp; have hp := hq; clear hq
  go_upto_region 2 with fail
  go_cut [58] (fun s wx => s = .bool false ∧ Hp [] w [⟨gc, 29, [.int .i64 c.x, .int .i64 c.y, .int .i64 c.z]⟩, ⟨gb, 29, [.int .i64 b.x, .int .i64 b.y, .int .i64 b.z]⟩, ⟨ga, 29, [.int .i64 a.x, .int .i64 a.y, .int .i64 a.z]⟩] wx)
  case first =>
    skip
    rcases HX.out with rfl | rfl | rfl
    · have hne : (a.x == b.x && (a.y == b.y && a.z == b.z)) = false := p3_neb fun h => by have := HZ.out.2 h; omega
      rcases HY.out with rfl | rfl | rfl
      · have hz : ¬ 0 < z := by have := (HT.out (by omega) (by omega)).1; omega
        have hz2 : ¬ 0 ≤ z := by have := (HT.out (by omega) (by omega)).2 (by omega); omega
        go_wp2_with (first
          | ((with_reducible apply sx_guard); (conv => whnf); refine Bx.mk ?_; (try simp only [zp, zq, z0, z1]))
          | ((with_reducible apply sx_box hp); exact za rfl; exact rfl; clear hp; (try clear w1); intro g w1 hp; simp only [zp, zq, z0, z1])
          | ((with_reducible apply sx_alloc hp); infer_instance; exact rfl; clear hp; (try clear w1); intro g w1 hp; simp only [zp, zq, z0, z1])
          | ((with_reducible apply sx_load_agg hp); exact zt rfl; infer_instance; infer_instance; (first | exact zl rfl | exact LB_le (by omega)); (first | (with_reducible exact LB_set (by omega)) | (simp only [n0, Nat.reduceAdd, n1, n2, n3, n4, n5, n6, n7, n8, n9]; try rfl)); simp only [zp, zq, z0, z1])
          | ((with_reducible apply sx_store hp); exact zt rfl; exact za rfl; exact rfl; (first | exact AggTy.size | exact OneTy.size); exact rfl; infer_instance; (first | (with_reducible exact LB_set (by omega)) | (simp only [n0, Nat.reduceAdd, n1, n2, n3, n4, n5, n6, n7, n8, n9]; try rfl)); (first | exact zl rfl | exact LB_le (by omega)); exact rfl; infer_instance; clear hp; (try clear w1); intro w1 hp)
          | ((with_reducible refine sx_call hp (C4.out _) ?_); clear hp; (try clear w1); intro w1 hp))
        go_meet
        first | exact ⟨rfl, hp⟩ | exact ⟨by congr 1; simp; omega, hp⟩
      · have hz : ¬ 0 < z := by have := (HT.out (by omega) (by omega)).1; omega
        have hz2 : ¬ 0 ≤ z := by have := (HT.out (by omega) (by omega)).2 (by omega); omega
        go_wp2_with (first
          | ((with_reducible apply sx_guard); (conv => whnf); refine Bx.mk ?_; (try simp only [zp, zq, z0, z1]))
          | ((with_reducible apply sx_box hp); exact za rfl; exact rfl; clear hp; (try clear w1); intro g w1 hp; simp only [zp, zq, z0, z1])
          | ((with_reducible apply sx_alloc hp); infer_instance; exact rfl; clear hp; (try clear w1); intro g w1 hp; simp only [zp, zq, z0, z1])
          | ((with_reducible apply sx_load_agg hp); exact zt rfl; infer_instance; infer_instance; (first | exact zl rfl | exact LB_le (by omega)); (first | (with_reducible exact LB_set (by omega)) | (simp only [n0, Nat.reduceAdd, n1, n2, n3, n4, n5, n6, n7, n8, n9]; try rfl)); simp only [zp, zq, z0, z1])
          | ((with_reducible apply sx_store hp); exact zt rfl; exact za rfl; exact rfl; (first | exact AggTy.size | exact OneTy.size); exact rfl; infer_instance; (first | (with_reducible exact LB_set (by omega)) | (simp only [n0, Nat.reduceAdd, n1, n2, n3, n4, n5, n6, n7, n8, n9]; try rfl)); (first | exact zl rfl | exact LB_le (by omega)); exact rfl; infer_instance; clear hp; (try clear w1); intro w1 hp)
          | ((with_reducible refine sx_call hp (C4.out _) ?_); clear hp; (try clear w1); intro w1 hp))
        go_meet
        first | exact ⟨rfl, hp⟩ | exact ⟨by congr 1; simp; omega, hp⟩
      · skip
        go_wp2_with (first
          | ((with_reducible apply sx_guard); (conv => whnf); refine Bx.mk ?_; (try simp only [zp, zq, z0, z1]))
          | ((with_reducible apply sx_box hp); exact za rfl; exact rfl; clear hp; (try clear w1); intro g w1 hp; simp only [zp, zq, z0, z1])
          | ((with_reducible apply sx_alloc hp); infer_instance; exact rfl; clear hp; (try clear w1); intro g w1 hp; simp only [zp, zq, z0, z1])
          | ((with_reducible apply sx_load_agg hp); exact zt rfl; infer_instance; infer_instance; (first | exact zl rfl | exact LB_le (by omega)); (first | (with_reducible exact LB_set (by omega)) | (simp only [n0, Nat.reduceAdd, n1, n2, n3, n4, n5, n6, n7, n8, n9]; try rfl)); simp only [zp, zq, z0, z1])
          | ((with_reducible apply sx_store hp); exact zt rfl; exact za rfl; exact rfl; (first | exact AggTy.size | exact OneTy.size); exact rfl; infer_instance; (first | (with_reducible exact LB_set (by omega)) | (simp only [n0, Nat.reduceAdd, n1, n2, n3, n4, n5, n6, n7, n8, n9]; try rfl)); (first | exact zl rfl | exact LB_le (by omega)); exact rfl; infer_instance; clear hp; (try clear w1); intro w1 hp)
          | ((with_reducible refine sx_call hp (C4.out _) ?_); clear hp; (try clear w1); intro w1 hp))
        go_meet
        first | exact ⟨rfl, hp⟩ | exact ⟨by congr 1; simp; omega, hp⟩
    · obtain rfl := HZ.out.1 rfl
      rcases HY.out with rfl | rfl | rfl
      · have hz : ¬ 0 < z := by have := (HT.out (by omega) (by omega)).1; omega
        go_wp2_with (first
          | ((with_reducible apply sx_guard); (conv => whnf); refine Bx.mk ?_; (try simp only [zp, zq, z0, z1]))
          | ((with_reducible apply sx_box hp); exact za rfl; exact rfl; clear hp; (try clear w1); intro g w1 hp; simp only [zp, zq, z0, z1])
          | ((with_reducible apply sx_alloc hp); infer_instance; exact rfl; clear hp; (try clear w1); intro g w1 hp; simp only [zp, zq, z0, z1])
          | ((with_reducible apply sx_load_agg hp); exact zt rfl; infer_instance; infer_instance; (first | exact zl rfl | exact LB_le (by omega)); (first | (with_reducible exact LB_set (by omega)) | (simp only [n0, Nat.reduceAdd, n1, n2, n3, n4, n5, n6, n7, n8, n9]; try rfl)); simp only [zp, zq, z0, z1])
          | ((with_reducible apply sx_store hp); exact zt rfl; exact za rfl; exact rfl; (first | exact AggTy.size | exact OneTy.size); exact rfl; infer_instance; (first | (with_reducible exact LB_set (by omega)) | (simp only [n0, Nat.reduceAdd, n1, n2, n3, n4, n5, n6, n7, n8, n9]; try rfl)); (first | exact zl rfl | exact LB_le (by omega)); exact rfl; infer_instance; clear hp; (try clear w1); intro w1 hp)
          | ((with_reducible refine sx_call hp (C4.out _) ?_); clear hp; (try clear w1); intro w1 hp))
        go_meet
        first | exact ⟨rfl, hp⟩ | exact ⟨by congr 1; simp; omega, hp⟩
      · have hz : ¬ 0 < z := by have := (HT.out (by omega) (by omega)).1; omega
        go_wp2_with (first
          | ((with_reducible apply sx_guard); (conv => whnf); refine Bx.mk ?_; (try simp only [zp, zq, z0, z1]))
          | ((with_reducible apply sx_box hp); exact za rfl; exact rfl; clear hp; (try clear w1); intro g w1 hp; simp only [zp, zq, z0, z1])
          | ((with_reducible apply sx_alloc hp); infer_instance; exact rfl; clear hp; (try clear w1); intro g w1 hp; simp only [zp, zq, z0, z1])
          | ((with_reducible apply sx_load_agg hp); exact zt rfl; infer_instance; infer_instance; (first | exact zl rfl | exact LB_le (by omega)); (first | (with_reducible exact LB_set (by omega)) | (simp only [n0, Nat.reduceAdd, n1, n2, n3, n4, n5, n6, n7, n8, n9]; try rfl)); simp only [zp, zq, z0, z1])
          | ((with_reducible apply sx_store hp); exact zt rfl; exact za rfl; exact rfl; (first | exact AggTy.size | exact OneTy.size); exact rfl; infer_instance; (first | (with_reducible exact LB_set (by omega)) | (simp only [n0, Nat.reduceAdd, n1, n2, n3, n4, n5, n6, n7, n8, n9]; try rfl)); (first | exact zl rfl | exact LB_le (by omega)); exact rfl; infer_instance; clear hp; (try clear w1); intro w1 hp)
          | ((with_reducible refine sx_call hp (C4.out _) ?_); clear hp; (try clear w1); intro w1 hp))
        go_meet
        first | exact ⟨rfl, hp⟩ | exact ⟨by congr 1; simp; omega, hp⟩
      · skip
        go_wp2_with (first
          | ((with_reducible apply sx_guard); (conv => whnf); refine Bx.mk ?_; (try simp only [zp, zq, z0, z1]))
          | ((with_reducible apply sx_box hp); exact za rfl; exact rfl; clear hp; (try clear w1); intro g w1 hp; simp only [zp, zq, z0, z1])
          | ((with_reducible apply sx_alloc hp); infer_instance; exact rfl; clear hp; (try clear w1); intro g w1 hp; simp only [zp, zq, z0, z1])
          | ((with_reducible apply sx_load_agg hp); exact zt rfl; infer_instance; infer_instance; (first | exact zl rfl | exact LB_le (by omega)); (first | (with_reducible exact LB_set (by omega)) | (simp only [n0, Nat.reduceAdd, n1, n2, n3, n4, n5, n6, n7, n8, n9]; try rfl)); simp only [zp, zq, z0, z1])
          | ((with_reducible apply sx_store hp); exact zt rfl; exact za rfl; exact rfl; (first | exact AggTy.size | exact OneTy.size); exact rfl; infer_instance; (first | (with_reducible exact LB_set (by omega)) | (simp only [n0, Nat.reduceAdd, n1, n2, n3, n4, n5, n6, n7, n8, n9]; try rfl)); (first | exact zl rfl | exact LB_le (by omega)); exact rfl; infer_instance; clear hp; (try clear w1); intro w1 hp)
          | ((with_reducible refine sx_call hp (C4.out _) ?_); clear hp; (try clear w1); intro w1 hp))
        go_meet
        first | exact ⟨rfl, hp⟩ | exact ⟨by congr 1; simp; omega, hp⟩
    · have hne : (a.x == b.x && (a.y == b.y && a.z == b.z)) = false := p3_neb fun h => by have := HZ.out.2 h; omega
      go_wp2_with (first
          | ((with_reducible apply sx_guard); (conv => whnf); refine Bx.mk ?_; (try simp only [zp, zq, z0, z1]))
          | ((with_reducible apply sx_box hp); exact za rfl; exact rfl; clear hp; (try clear w1); intro g w1 hp; simp only [zp, zq, z0, z1])
          | ((with_reducible apply sx_alloc hp); infer_instance; exact rfl; clear hp; (try clear w1); intro g w1 hp; simp only [zp, zq, z0, z1])
          | ((with_reducible apply sx_load_agg hp); exact zt rfl; infer_instance; infer_instance; (first | exact zl rfl | exact LB_le (by omega)); (first | (with_reducible exact LB_set (by omega)) | (simp only [n0, Nat.reduceAdd, n1, n2, n3, n4, n5, n6, n7, n8, n9]; try rfl)); simp only [zp, zq, z0, z1])
          | ((with_reducible apply sx_store hp); exact zt rfl; exact za rfl; exact rfl; (first | exact AggTy.size | exact OneTy.size); exact rfl; infer_instance; (first | (with_reducible exact LB_set (by omega)) | (simp only [n0, Nat.reduceAdd, n1, n2, n3, n4, n5, n6, n7, n8, n9]; try rfl)); (first | exact zl rfl | exact LB_le (by omega)); exact rfl; infer_instance; clear hp; (try clear w1); intro w1 hp)
          | ((with_reducible refine sx_call hp (C4.out _) ?_); clear hp; (try clear w1); intro w1 hp))
      go_meet
      exact ⟨rfl, hp⟩
  case rest =>
    clear hp C1 C2 C3 C4
    obtain ⟨rfl, hp⟩ := hcut
    unfold lessV at hl
    by_cases hm : a.may ∧ b.may
    · rw [if_pos hm] at hl
      have HS := Lib.hid (sum_any (a.sub b) b a.x a.y a.z (by simp [P3.sub]) (by simp [P3.sub]) (by simp [P3.sub]) ha)
      have HL := Lib.hid hl
      generalize a.sub b = d at *
      clear hl ha hm
      go_wp2_with (first
          | ((with_reducible apply sx_box hp); exact za rfl; exact rfl; clear hp; (try clear w1); intro g w1 hp; simp only [zp, zq, z0, z1])
          | ((with_reducible apply sx_alloc hp); infer_instance; exact rfl; clear hp; (try clear w1); intro g w1 hp; simp only [zp, zq, z0, z1])
          | ((with_reducible apply sx_load_agg hp); exact zt rfl; infer_instance; infer_instance; (first | exact zl rfl | exact LB_le (by omega)); (first | (with_reducible exact LB_set (by omega)) | (simp only [n0, Nat.reduceAdd, n1, n2, n3, n4, n5, n6, n7, n8, n9]; try rfl)); simp only [zp, zq, z0, z1])
          | ((with_reducible apply sx_store hp); exact zt rfl; exact za rfl; exact rfl; (first | exact AggTy.size | exact OneTy.size); exact rfl; infer_instance; (first | (with_reducible exact LB_set (by omega)) | (simp only [n0, Nat.reduceAdd, n1, n2, n3, n4, n5, n6, n7, n8, n9]; try rfl)); (first | exact zl rfl | exact LB_le (by omega)); exact rfl; infer_instance; clear hp; (try clear w1); intro w1 hp)
          | ((with_reducible refine sx_call hp (HL.out _) ?_); clear hp; (try clear w1); intro w1 hp))
      have hq := hp
      refine wp_drawn_hp hp hq [] (.q 0 (.q 1 (.q 2 (.q 3 (.q 4 (.q 6 (.l 5 (.q 7 (.q 8 (.q 9 (.l 10 (.q 11 (.q 12 .nil))))))))))))) (by kernel_rfl) (by kernel_rfl) ?_
      clear hp hq; (try clear w1); intro w1 hp hq
      ((with_reducible apply sd_q); exact zo rfl)
      ((with_reducible apply sd_move hp); exact zi rfl; simp only [zp, zq, z0, z1])
      ((with_reducible apply sd_q); exact zo rfl)
      ((with_reducible apply sd_pure hp); exact rfl; (focus (intro _; go_simp; (try go_ints); try with_reducible rfl)); simp only [zp, zq, z0, z1])
      ((with_reducible apply sd_q); exact zo rfl)
      ((with_reducible apply sd_move hp); exact zb rfl; simp only [zp, zq, z0, z1])
      ((with_reducible apply sd_q); exact zo rfl)
      (first
      | ((with_reducible apply sd_load_agg hp); exact rfl; exact zt rfl; infer_instance; infer_instance; (first | exact zl rfl | exact LB_le (by omega)); (first | (with_reducible exact LB_set (by omega)) | (simp only [n0, Nat.reduceAdd, n1, n2, n3, n4, n5, n6, n7, n8, n9]; try rfl)); simp only [zp, zq, z0, z1])
      | ((with_reducible apply sd_skip hp); exact rfl; simp only [zp, zq, z0, z1]))
      ((with_reducible apply sd_q); exact zo rfl)
      (first
      | ((with_reducible apply sd_load_agg hp); exact rfl; exact zt rfl; infer_instance; infer_instance; (first | exact zl rfl | exact LB_le (by omega)); (first | (with_reducible exact LB_set (by omega)) | (simp only [n0, Nat.reduceAdd, n1, n2, n3, n4, n5, n6, n7, n8, n9]; try rfl)); simp only [zp, zq, z0, z1])
      | ((with_reducible apply sd_skip hp); exact rfl; simp only [zp, zq, z0, z1]))
      ((with_reducible apply sd_q); exact zo rfl)
      (first
      | ((with_reducible apply sd_load_agg hp); exact rfl; exact zt rfl; infer_instance; infer_instance; (first | exact zl rfl | exact LB_le (by omega)); (first | (with_reducible exact LB_set (by omega)) | (simp only [n0, Nat.reduceAdd, n1, n2, n3, n4, n5, n6, n7, n8, n9]; try rfl)); simp only [zp, zq, z0, z1])
      | ((with_reducible apply sd_skip hp); exact rfl; simp only [zp, zq, z0, z1]))
      ((with_reducible apply sd_l); exact zo rfl)
      (first
      | ((with_reducible apply sd_call hp); exact rfl; (focus (intro _; go_simp; try first | with_reducible rfl | exact ⟨rfl, rfl⟩)); (with_reducible first | exact fun w => HS.out w | exact fun w => awake6 w); exact hq; clear hp hq; (try clear w1); intro w1 hp hq; simp only [zp, zq, z0, z1])
      | ((with_reducible apply sd_skip_loud hp); exact rfl; simp only [zp, zq, z0, z1]))
      ((with_reducible apply sd_q); exact zo rfl)
      (first
      | ((with_reducible apply sd_pure hp); exact rfl; (focus (intro _; go_simp; (try go_ints); try with_reducible rfl)); simp only [zp, zq, z0, z1])
      | ((with_reducible apply sd_skip hp); exact rfl; simp only [zp, zq, z0, z1]))
      ((with_reducible apply sd_q); exact zo rfl)
      ((with_reducible apply sd_pure hp); exact rfl; (focus (intro _; go_simp; (try go_ints); try with_reducible rfl)); simp only [zp, zq, z0, z1])
      ((with_reducible apply sd_q); exact zo rfl)
      ((with_reducible apply sd_move hp); exact zb rfl; simp only [zp, zq, z0, z1])
      ((with_reducible apply sd_l); exact zo rfl)
      (first
      | ((with_reducible apply sd_call hp); exact rfl; (focus (intro _; go_simp; try first | with_reducible rfl | exact ⟨rfl, rfl⟩)); (with_reducible first | exact fun w => HS.out w | exact fun w => awake6 w); exact hq; clear hp hq; (try clear w1); intro w1 hp hq; simp only [zp, zq, z0, z1])
      | ((with_reducible apply sd_skip_loud hp); exact rfl; simp only [zp, zq, z0, z1]))
      ((with_reducible apply sd_q); exact zo rfl)
      ((with_reducible apply sd_pure hp); exact rfl; (focus (intro _; go_simp; (try go_ints); try with_reducible rfl)); simp only [zp, zq, z0, z1])
      ((with_reducible apply sd_q); exact zo rfl)
      ((with_reducible apply sd_assign hp); exact zb rfl; simp only [zp, zq, z0, z1])
      (with_reducible apply sd_nil)
      clear hp; have hp := hq; clear hq
      go_wp2
      exact bodyPost_ret (results_one rfl rfl) rfl ⟨rfl, hp.keep⟩
    · rw [if_neg hm] at hl
      have HL := Lib.hid hl
      clear hl ha hm
      go_wp2_with (first
          | ((with_reducible apply sx_box hp); exact za rfl; exact rfl; clear hp; (try clear w1); intro g w1 hp; simp only [zp, zq, z0, z1])
          | ((with_reducible apply sx_alloc hp); infer_instance; exact rfl; clear hp; (try clear w1); intro g w1 hp; simp only [zp, zq, z0, z1])
          | ((with_reducible apply sx_load_agg hp); exact zt rfl; infer_instance; infer_instance; (first | exact zl rfl | exact LB_le (by omega)); (first | (with_reducible exact LB_set (by omega)) | (simp only [n0, Nat.reduceAdd, n1, n2, n3, n4, n5, n6, n7, n8, n9]; try rfl)); simp only [zp, zq, z0, z1])
          | ((with_reducible apply sx_store hp); exact zt rfl; exact za rfl; exact rfl; (first | exact AggTy.size | exact OneTy.size); exact rfl; infer_instance; (first | (with_reducible exact LB_set (by omega)) | (simp only [n0, Nat.reduceAdd, n1, n2, n3, n4, n5, n6, n7, n8, n9]; try rfl)); (first | exact zl rfl | exact LB_le (by omega)); exact rfl; infer_instance; clear hp; (try clear w1); intro w1 hp)
          | ((with_reducible refine sx_call hp (HL.out _) ?_); clear hp; (try clear w1); intro w1 hp))
      have hq := hp
      refine wp_drawn_hp hp hq [] (.q 0 (.q 1 (.q 2 (.q 3 (.q 4 (.q 6 (.l 5 (.q 7 (.q 8 (.q 9 (.l 10 (.q 11 (.q 12 .nil))))))))))))) (by kernel_rfl) (by kernel_rfl) ?_
      clear hp hq; (try clear w1); intro w1 hp hq
      ((with_reducible apply sd_q); exact zo rfl)
      ((with_reducible apply sd_move hp); exact zi rfl; simp only [zp, zq, z0, z1])
      ((with_reducible apply sd_q); exact zo rfl)
      ((with_reducible apply sd_pure hp); exact rfl; (focus (intro _; go_simp; (try go_ints); try with_reducible rfl)); simp only [zp, zq, z0, z1])
      ((with_reducible apply sd_q); exact zo rfl)
      ((with_reducible apply sd_move hp); exact zb rfl; simp only [zp, zq, z0, z1])
      ((with_reducible apply sd_q); exact zo rfl)
      (first
      | ((with_reducible apply sd_load_agg hp); exact rfl; exact zt rfl; infer_instance; infer_instance; (first | exact zl rfl | exact LB_le (by omega)); (first | (with_reducible exact LB_set (by omega)) | (simp only [n0, Nat.reduceAdd, n1, n2, n3, n4, n5, n6, n7, n8, n9]; try rfl)); simp only [zp, zq, z0, z1])
      | ((with_reducible apply sd_skip hp); exact rfl; simp only [zp, zq, z0, z1]))
      ((with_reducible apply sd_q); exact zo rfl)
      (first
      | ((with_reducible apply sd_load_agg hp); exact rfl; exact zt rfl; infer_instance; infer_instance; (first | exact zl rfl | exact LB_le (by omega)); (first | (with_reducible exact LB_set (by omega)) | (simp only [n0, Nat.reduceAdd, n1, n2, n3, n4, n5, n6, n7, n8, n9]; try rfl)); simp only [zp, zq, z0, z1])
      | ((with_reducible apply sd_skip hp); exact rfl; simp only [zp, zq, z0, z1]))
      ((with_reducible apply sd_q); exact zo rfl)
      (first
      | ((with_reducible apply sd_load_agg hp); exact rfl; exact zt rfl; infer_instance; infer_instance; (first | exact zl rfl | exact LB_le (by omega)); (first | (with_reducible exact LB_set (by omega)) | (simp only [n0, Nat.reduceAdd, n1, n2, n3, n4, n5, n6, n7, n8, n9]; try rfl)); simp only [zp, zq, z0, z1])
      | ((with_reducible apply sd_skip hp); exact rfl; simp only [zp, zq, z0, z1]))
      ((with_reducible apply sd_l); exact zo rfl)
      (first
      | ((with_reducible apply sd_call hp); exact rfl; (focus (intro _; go_simp; try first | with_reducible rfl | exact ⟨rfl, rfl⟩)); (with_reducible exact fun w => awake6 w); exact hq; clear hp hq; (try clear w1); intro w1 hp hq; simp only [zp, zq, z0, z1])
      | ((with_reducible apply sd_skip_loud hp); exact rfl; simp only [zp, zq, z0, z1]))
      ((with_reducible apply sd_q); exact zo rfl)
      (first
      | ((with_reducible apply sd_pure hp); exact rfl; (focus (intro _; go_simp; (try go_ints); try with_reducible rfl)); simp only [zp, zq, z0, z1])
      | ((with_reducible apply sd_skip hp); exact rfl; simp only [zp, zq, z0, z1]))
      ((with_reducible apply sd_q); exact zo rfl)
      ((with_reducible apply sd_pure hp); exact rfl; (focus (intro _; go_simp; (try go_ints); try with_reducible rfl)); simp only [zp, zq, z0, z1])
      ((with_reducible apply sd_q); exact zo rfl)
      ((with_reducible apply sd_move hp); exact zb rfl; simp only [zp, zq, z0, z1])
      ((with_reducible apply sd_l); exact zo rfl)
      (first
      | ((with_reducible apply sd_call hp); exact rfl; (focus (intro _; go_simp; try first | with_reducible rfl | exact ⟨rfl, rfl⟩)); (with_reducible exact fun w => awake6 w); exact hq; clear hp hq; (try clear w1); intro w1 hp hq; simp only [zp, zq, z0, z1])
      | ((with_reducible apply sd_skip_loud hp); exact rfl; simp only [zp, zq, z0, z1]))
      ((with_reducible apply sd_q); exact zo rfl)
      ((with_reducible apply sd_pure hp); exact rfl; (focus (intro _; go_simp; (try go_ints); try with_reducible rfl)); simp only [zp, zq, z0, z1])
      ((with_reducible apply sd_q); exact zo rfl)
      ((with_reducible apply sd_assign hp); exact zb rfl; simp only [zp, zq, z0, z1])
      (with_reducible apply sd_nil)
      clear hp; have hp := hq; clear hq
      go_wp2
      exact bodyPost_ret (results_one rfl rfl) rfl ⟨rfl, hp.keep⟩
end Go.Proofs.Ytbhlnbllkoomfaa
