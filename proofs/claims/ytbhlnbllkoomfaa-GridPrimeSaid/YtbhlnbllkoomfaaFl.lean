/-
  Package ninepinref06: size, Common, Prime; ninepinlaw06.GridPrime (contracts).
-/
import Derived.Test.YtbhlnbllkoomfaaCd
import Derived.Test.YtbhlnbllkoomfaaFj
import Derived.Test.YtbhlnbllkoomfaaFg
import Derived.Test.YtbhlnbllkoomfaaEd
import Derived.Test.YtbhlnbllkoomfaaLk
set_option linter.unusedSimpArgs false
set_option linter.unusedVariables false
set_option maxRecDepth 100000
namespace Go.Proofs.Ytbhlnbllkoomfaa
open Go Go.RowKit
attribute [local irreducible] wpList

theorem fz_fit' (n : Int) : Fit (fz n) := by
  unfold fz
  split
  · assumption
  · exact fit_zero
theorem fz_nonneg {n : Int} (h : 0 ≤ n) : 0 ≤ fz n := by
  unfold fz
  split
  · exact h
  · exact Int.le_refl _
set_option maxHeartbeats 4000000 in
theorem rsize6_any (n : Int) (hn : Fit n) (w : World) : Calls Try.prog 55 #[W n] w (Ret (.tuple #[W (fz (az n)), .bool (decide (Fit (az n)))]) w) := by
  have hb := fun w => rbelow_any n hn w
  by_cases h : n < 0
  · rw [decide_eq_true h] at hb
    have hs := fun w => rsub_any 0 n fit_zero hn w
    have e : (0 : Int) - n = az n := by unfold az; rw [if_pos h]; omega
    rw [e, W_zero] at hs
    have HB := Lib.hid hb
    have HS := Lib.hid hs
    clear hb hs e h hn
    generalize fz (az n) = m at *
    generalize decide (Fit (az n)) = o at *
    go_enter Try.func55, Try.ntmps55
    have hp := Hp.start [] w
    go_wp2_with (first
          | ((with_reducible apply sx_box hp); exact za rfl; exact rfl; clear hp; (try clear w1); intro g w1 hp; simp only [zp, zq, z0, z1])
          | ((with_reducible apply sx_alloc hp); infer_instance; exact rfl; clear hp; (try clear w1); intro g w1 hp; simp only [zp, zq, z0, z1])
          | ((with_reducible apply sx_load_agg hp); exact zt rfl; infer_instance; infer_instance; (first | exact zl rfl | exact LB_le (by omega)); (first | (with_reducible exact LB_set (by omega)) | (simp only [n0, Nat.reduceAdd, n1, n2, n3, n4, n5, n6, n7, n8, n9]; try rfl)); simp only [zp, zq, z0, z1])
          | ((with_reducible apply sx_store hp); exact zt rfl; exact za rfl; exact rfl; (first | exact AggTy.size | exact OneTy.size); exact rfl; infer_instance; (first | (with_reducible exact LB_set (by omega)) | (simp only [n0, Nat.reduceAdd, n1, n2, n3, n4, n5, n6, n7, n8, n9]; try rfl)); (first | exact zl rfl | exact LB_le (by omega)); exact rfl; infer_instance; clear hp; (try clear w1); intro w1 hp)
          | ((with_reducible first | refine sx_call hp (HB.out _) ?_ | refine sx_call hp (HS.out _) ?_); clear hp; (try clear w1); intro w1 hp))
    exact bodyPost_ret (results_two rfl ⟨_, rfl, run_load_agg hp (Nat.le_of_ble_eq_true rfl)⟩ rfl) rfl ⟨rfl, hp.keep⟩
  · rw [decide_eq_false h] at hb
    have e : az n = n := by unfold az; rw [if_neg h]
    rw [e, fz, if_pos hn, decide_eq_true hn]
    have HB := Lib.hid hb
    clear hb e h hn
    go_enter Try.func55, Try.ntmps55
    have hp := Hp.start [] w
    go_wp2_with (first
          | ((with_reducible apply sx_box hp); exact za rfl; exact rfl; clear hp; (try clear w1); intro g w1 hp; simp only [zp, zq, z0, z1])
          | ((with_reducible apply sx_alloc hp); infer_instance; exact rfl; clear hp; (try clear w1); intro g w1 hp; simp only [zp, zq, z0, z1])
          | ((with_reducible apply sx_load_agg hp); exact zt rfl; infer_instance; infer_instance; (first | exact zl rfl | exact LB_le (by omega)); (first | (with_reducible exact LB_set (by omega)) | (simp only [n0, Nat.reduceAdd, n1, n2, n3, n4, n5, n6, n7, n8, n9]; try rfl)); simp only [zp, zq, z0, z1])
          | ((with_reducible apply sx_store hp); exact zt rfl; exact za rfl; exact rfl; (first | exact AggTy.size | exact OneTy.size); exact rfl; infer_instance; (first | (with_reducible exact LB_set (by omega)) | (simp only [n0, Nat.reduceAdd, n1, n2, n3, n4, n5, n6, n7, n8, n9]; try rfl)); (first | exact zl rfl | exact LB_le (by omega)); exact rfl; infer_instance; clear hp; (try clear w1); intro w1 hp)
          | ((with_reducible refine sx_call hp (HB.out _) ?_); clear hp; (try clear w1); intro w1 hp))
    exact bodyPost_ret (results_two rfl ⟨_, rfl, run_load_agg hp (Nat.le_of_ble_eq_true rfl)⟩ rfl) rfl ⟨rfl, hp.keep⟩
set_option maxHeartbeats 8000000 in
theorem rcommon_any (a b : Int) (ha : Fit a) (hb : Fit b) (ha0 : 0 ≤ a) (hb0 : 0 ≤ b) (w : World) : Calls Try.prog 56 #[W a, W b] w (Ret (W (cg a b)) w) := by
  have HA := Lib.hid ha
  have HB := Lib.hid hb
  clear ha hb
  go_enter Try.func56, Try.ntmps56
  have hp := Hp.start [] w
  go_wp2_with (first
          | ((with_reducible apply sx_box hp); exact za rfl; exact rfl; clear hp; (try clear w1); intro g w1 hp; simp only [zp, zq, z0, z1])
          | ((with_reducible apply sx_alloc hp); infer_instance; exact rfl; clear hp; (try clear w1); intro g w1 hp; simp only [zp, zq, z0, z1])
          | ((with_reducible apply sx_load_agg hp); exact zt rfl; infer_instance; infer_instance; (first | exact zl rfl | exact LB_le (by omega)); (first | (with_reducible exact LB_set (by omega)) | (simp only [n0, Nat.reduceAdd, n1, n2, n3, n4, n5, n6, n7, n8, n9]; try rfl)); simp only [zp, zq, z0, z1])
          | ((with_reducible apply sx_store hp); exact zt rfl; exact za rfl; exact rfl; (first | exact AggTy.size | exact OneTy.size); exact rfl; infer_instance; (first | (with_reducible exact LB_set (by omega)) | (simp only [n0, Nat.reduceAdd, n1, n2, n3, n4, n5, n6, n7, n8, n9]; try rfl)); (first | exact zl rfl | exact LB_le (by omega)); exact rfl; infer_instance; clear hp; (try clear w1); intro w1 hp))
  rename_i ga gb K hK
  obtain ⟨gp, rfl⟩ : ∃ z : Nat, z = g := ⟨_, rfl⟩
  go_loopw [7] (fun ok wr => ∃ x y : Int, Fit x ∧ Fit y ∧ 0 ≤ x ∧ 0 ≤ y ∧ cg x y = cg a b ∧ Hp [] w [⟨gp, 25, [.int .u64 0, .int .u64 0, .int .u64 0, .int .u64 0, .int .u64 0, .int .u64 0, .int .u64 0, .int .u64 0]⟩, ⟨gb, 25, [.int .u64 (lb (y) 0), .int .u64 (lb (y) 1), .int .u64 (lb (y) 2), .int .u64 (lb (y) 3), .int .u64 (lb (y) 4), .int .u64 (lb (y) 5), .int .u64 (lb (y) 6), .int .u64 (lb (y) 7)]⟩, ⟨ga, 25, [.int .u64 (lb (x) 0), .int .u64 (lb (x) 1), .int .u64 (lb (x) 2), .int .u64 (lb (x) 3), .int .u64 (lb (x) 4), .int .u64 (lb (x) 5), .int .u64 (lb (x) 6), .int .u64 (lb (x) 7)]⟩] wr) (fun _ wr => bval gb wr)
  case atStart => exact ⟨a, b, HA.out, HB.out, ha0, hb0, rfl, hp⟩
  case round =>
    clear hp
    obtain ⟨x, y, hx, hy, hx0, hy0, hg, hp⟩ := hrel
    have HX := Lib.hid hx
    have HY := Lib.hid hy
    have HG := Lib.hid hg
    have HSG : Hid (∀ w, Calls Try.prog 57 #[W y] w (Ret (.int .i64 (sgn y)) w)) := Lib.hid fun w => rsign_any y hy w
    by_cases h0 : y = 0
    · have hsg : (sgn y == 0) = true := by rw [h0]; rfl
      have e : cg a b = x := by rw [← hg, h0, cg_zero hx0]
      have E := Lib.hid e
      clear hx hy hg h0 HX HY HG e
      go_wp2_with (first
          | ((with_reducible apply sx_box hp); exact za rfl; exact rfl; clear hp; (try clear w1); intro g w1 hp; simp only [zp, zq, z0, z1])
          | ((with_reducible apply sx_alloc hp); infer_instance; exact rfl; clear hp; (try clear w1); intro g w1 hp; simp only [zp, zq, z0, z1])
          | ((with_reducible apply sx_load_agg hp); exact zt rfl; infer_instance; infer_instance; (first | exact zl rfl | exact LB_le (by omega)); (first | (with_reducible exact LB_set (by omega)) | (simp only [n0, Nat.reduceAdd, n1, n2, n3, n4, n5, n6, n7, n8, n9]; try rfl)); simp only [zp, zq, z0, z1])
          | ((with_reducible apply sx_store hp); exact zt rfl; exact za rfl; exact rfl; (first | exact AggTy.size | exact OneTy.size); exact rfl; infer_instance; (first | (with_reducible exact LB_set (by omega)) | (simp only [n0, Nat.reduceAdd, n1, n2, n3, n4, n5, n6, n7, n8, n9]; try rfl)); (first | exact zl rfl | exact LB_le (by omega)); exact rfl; infer_instance; clear hp; (try clear w1); intro w1 hp)
          | ((with_reducible refine sx_call hp (HSG.out _) ?_); clear hp; (try clear w1); intro w1 hp))
      exact bodyPost_ret (results_one rfl ⟨_, rfl, run_load_agg hp (Nat.le_of_ble_eq_true rfl)⟩) rfl ⟨by rw [E.out]; rfl, hp.keep⟩
    · have hsg : (sgn y == 0) = false := by have := sgn_ne h0; simp [this]
      have hm := bval_hp (g := gb) (y := y) hp hy0 (by unfold Fit M511 at hy; unfold M512; omega)
      have hok : dvok x y := ⟨h0, by unfold fq Fit at *; rw [if_neg (by omega)]; have := Int.ediv_nonneg hx0 hy0; have := Int.ediv_le_self y hx0; omega⟩
      have hr : dvr x y = x % y := by
        unfold dvr
        rw [if_pos hok]
        exact (fq_is (q := x / y) (by have := Int.mul_ediv_add_emod x y; rw [Int.mul_comm] at this; omega) (.inl ⟨by omega, Int.emod_nonneg _ h0, Int.emod_lt_of_pos _ (by omega)⟩)).2
      have hd := rdiv_any x y hx hy
      rw [hr] at hd
      have HD := Lib.hid hd
      have HM := Lib.hid hm
      have HY0 := Lib.hid h0
      clear hd hr hok hm h0 hx hy hg
      go_wp2_with (first
          | ((with_reducible apply sx_box hp); exact za rfl; exact rfl; clear hp; (try clear w1); intro g w1 hp; simp only [zp, zq, z0, z1])
          | ((with_reducible apply sx_alloc hp); infer_instance; exact rfl; clear hp; (try clear w1); intro g w1 hp; simp only [zp, zq, z0, z1])
          | ((with_reducible apply sx_load_agg hp); exact zt rfl; infer_instance; infer_instance; (first | exact zl rfl | exact LB_le (by omega)); (first | (with_reducible exact LB_set (by omega)) | (simp only [n0, Nat.reduceAdd, n1, n2, n3, n4, n5, n6, n7, n8, n9]; try rfl)); simp only [zp, zq, z0, z1])
          | ((with_reducible apply sx_store hp); exact zt rfl; exact za rfl; exact rfl; (first | exact AggTy.size | exact OneTy.size); exact rfl; infer_instance; (first | (with_reducible exact LB_set (by omega)) | (simp only [n0, Nat.reduceAdd, n1, n2, n3, n4, n5, n6, n7, n8, n9]; try rfl)); (first | exact zl rfl | exact LB_le (by omega)); exact rfl; infer_instance; clear hp; (try clear w1); intro w1 hp)
          | ((with_reducible first | refine sx_call hp (HSG.out _) ?_ | refine sx_call hp (HD.out _) ?_); clear hp; (try clear w1); intro w1 hp))
      go_roundw
      case rel =>
        have := Int.emod_lt_of_pos x (show 0 < y by have := HY0.out; omega)
        have h2 := Int.emod_nonneg x HY0.out
        refine ⟨y, x % y, HY.out, ?_, hy0, h2, ?_, ?_⟩
        · have := HY.out
          unfold Fit at *; omega
        · rw [cg_step hx0 (by have := HY0.out; omega)]; exact HG.out
        · exact hp.sub ((List.Sublist.refl _).cons _ |>.cons _)
      case measure =>
        have h1 := Int.emod_lt_of_pos x (show 0 < y by have := HY0.out; omega)
        have h2 := Int.emod_nonneg x HY0.out
        have h3 := HY.out
        rw [HM.out, bval_hp (g := gb) (y := x % y) hp h2 (by unfold Fit M511 at h3; unfold M512; omega)]
        omega
set_option maxHeartbeats 8000000 in
theorem rprime_core (x y z X Y Z d1 d p q r k1 k2 k3 : Int) (f1 f2 f3 fd o1 o2 o3 : Bool) (v : Value)
    (HG : Hid (f1 = true → f2 = true → f3 = true → fd = false → v = .tuple #[Sv p q r, .bool true])) (HN : Hid (¬ (f1 = true ∧ f2 = true ∧ f3 = true ∧ fd = false) → v = .tuple #[.agg #[.int .u64 0, .int .u64 0, .int .u64 0, .int .u64 0, .int .u64 0, .int .u64 0, .int .u64 0, .int .u64 0, .int .u64 0, .int .u64 0, .int .u64 0, .int .u64 0, .int .u64 0, .int .u64 0, .int .u64 0, .int .u64 0, .int .u64 0, .int .u64 0, .int .u64 0, .int .u64 0, .int .u64 0, .int .u64 0, .int .u64 0, .int .u64 0], .bool false]))
    (S1 : Hid (∀ w, Calls Try.prog 55 #[W x] w (Ret (.tuple #[W X, .bool f1]) w)))
    (S2 : Hid (∀ w, Calls Try.prog 55 #[W y] w (Ret (.tuple #[W Y, .bool f2]) w)))
    (S3 : Hid (∀ w, Calls Try.prog 55 #[W z] w (Ret (.tuple #[W Z, .bool f3]) w)))
    (C1 : Hid (∀ w, Calls Try.prog 56 #[W X, W Y] w (Ret (W d1) w)))
    (C2 : Hid (∀ w, Calls Try.prog 56 #[W d1, W Z] w (Ret (W d) w)))
    (SD : Hid (∀ w, Calls Try.prog 57 #[W d] w (Ret (.int .i64 (sgn d)) w))) (hfd : (sgn d == 0) = fd)
    (D1 : Hid (∀ w, Calls Try.prog 58 #[W x, W d] w (Ret (.tuple #[W p, W k1, .bool o1]) w)))
    (D2 : Hid (∀ w, Calls Try.prog 58 #[W y, W d] w (Ret (.tuple #[W q, W k2, .bool o2]) w)))
    (D3 : Hid (∀ w, Calls Try.prog 58 #[W z, W d] w (Ret (.tuple #[W r, W k3, .bool o3]) w)))
    (w : World) : Calls Try.prog 18 #[Sv x y z] w (Ret v w) := by
  go_enter Try.func18, Try.ntmps18
  have hp := Hp.start [] w
  go_wp2_with (first
          | ((with_reducible apply sx_box hp); exact za rfl; exact rfl; clear hp; (try clear w1); intro g w1 hp; simp only [zp, zq, z0, z1])
          | ((with_reducible apply sx_alloc hp); infer_instance; exact rfl; clear hp; (try clear w1); intro g w1 hp; simp only [zp, zq, z0, z1])
          | ((with_reducible apply sx_load_agg hp); exact zt rfl; infer_instance; infer_instance; (first | exact zl rfl | exact LB_le (by omega)); (first | (with_reducible exact LB_set (by omega)) | (simp only [n0, Nat.reduceAdd, n1, n2, n3, n4, n5, n6, n7, n8, n9]; try rfl)); simp only [zp, zq, z0, z1])
          | ((with_reducible apply sx_store hp); exact zt rfl; exact za rfl; exact rfl; (first | exact AggTy.size | exact OneTy.size); exact rfl; infer_instance; (first | (with_reducible exact LB_set (by omega)) | (simp only [n0, Nat.reduceAdd, n1, n2, n3, n4, n5, n6, n7, n8, n9]; try rfl)); (first | exact zl rfl | exact LB_le (by omega)); exact rfl; infer_instance; clear hp; (try clear w1); intro w1 hp)
          | ((with_reducible first | refine sx_call hp (S1.out _) ?_ | refine sx_call hp (S2.out _) ?_ | refine sx_call hp (S3.out _) ?_); clear hp; (try clear w1); intro w1 hp))
  rename_i gn gp g4 g6 K hK
  obtain ⟨g8, rfl⟩ : ∃ z : Nat, z = g := ⟨_, rfl⟩
  go_cut [10] (fun s wx => ∃ g10, s = .pointer (some ⟨g10, 0, none⟩) ∧ Hp [] w [⟨g10, 25, [.int .u64 (lb (d) 0), .int .u64 (lb (d) 1), .int .u64 (lb (d) 2), .int .u64 (lb (d) 3), .int .u64 (lb (d) 4), .int .u64 (lb (d) 5), .int .u64 (lb (d) 6), .int .u64 (lb (d) 7)]⟩, ⟨g8, 25, [.int .u64 (lb (Z) 0), .int .u64 (lb (Z) 1), .int .u64 (lb (Z) 2), .int .u64 (lb (Z) 3), .int .u64 (lb (Z) 4), .int .u64 (lb (Z) 5), .int .u64 (lb (Z) 6), .int .u64 (lb (Z) 7)]⟩, ⟨g6, 25, [.int .u64 (lb (Y) 0), .int .u64 (lb (Y) 1), .int .u64 (lb (Y) 2), .int .u64 (lb (Y) 3), .int .u64 (lb (Y) 4), .int .u64 (lb (Y) 5), .int .u64 (lb (Y) 6), .int .u64 (lb (Y) 7)]⟩, ⟨g4, 25, [.int .u64 (lb (X) 0), .int .u64 (lb (X) 1), .int .u64 (lb (X) 2), .int .u64 (lb (X) 3), .int .u64 (lb (X) 4), .int .u64 (lb (X) 5), .int .u64 (lb (X) 6), .int .u64 (lb (X) 7)]⟩, ⟨gp, 27, [.int .u64 0, .int .u64 0, .int .u64 0, .int .u64 0, .int .u64 0, .int .u64 0, .int .u64 0, .int .u64 0, .int .u64 0, .int .u64 0, .int .u64 0, .int .u64 0, .int .u64 0, .int .u64 0, .int .u64 0, .int .u64 0, .int .u64 0, .int .u64 0, .int .u64 0, .int .u64 0, .int .u64 0, .int .u64 0, .int .u64 0, .int .u64 0]⟩, ⟨gn, 27, [.int .u64 (lb (x) 0), .int .u64 (lb (x) 1), .int .u64 (lb (x) 2), .int .u64 (lb (x) 3), .int .u64 (lb (x) 4), .int .u64 (lb (x) 5), .int .u64 (lb (x) 6), .int .u64 (lb (x) 7), .int .u64 (lb (y) 0), .int .u64 (lb (y) 1), .int .u64 (lb (y) 2), .int .u64 (lb (y) 3), .int .u64 (lb (y) 4), .int .u64 (lb (y) 5), .int .u64 (lb (y) 6), .int .u64 (lb (y) 7), .int .u64 (lb (z) 0), .int .u64 (lb (z) 1), .int .u64 (lb (z) 2), .int .u64 (lb (z) 3), .int .u64 (lb (z) 4), .int .u64 (lb (z) 5), .int .u64 (lb (z) 6), .int .u64 (lb (z) 7)]⟩] wx)
  case first =>
    skip
    have hq := hp
    refine wp_drawn_hp hp hq [6] (.q 0 (.q 1 (.q 3 (.b2 2 (.b2 4 (.l 5 (.l 6 .nil)) 5 (.l 4 (.l 6 .nil))) 5 (.l 2 (.l 4 (.l 6 .nil))))))) (by kernel_rfl) (by kernel_rfl) ?_
    clear hp hq; (try clear w1); intro w1 hp hq
    ((with_reducible apply sd_q); exact zo rfl)
    ((with_reducible apply sd_load_agg hp); exact rfl; exact zt rfl; infer_instance; infer_instance; (first | exact zl rfl | exact LB_le (by omega)); (first | (with_reducible exact LB_set (by omega)) | (simp only [n0, Nat.reduceAdd, n1, n2, n3, n4, n5, n6, n7, n8, n9]; try rfl)); simp only [zp, zq, z0, z1])
    ((with_reducible apply sd_q); exact zo rfl)
    ((with_reducible apply sd_load_agg hp); exact rfl; exact zt rfl; infer_instance; infer_instance; (first | exact zl rfl | exact LB_le (by omega)); (first | (with_reducible exact LB_set (by omega)) | (simp only [n0, Nat.reduceAdd, n1, n2, n3, n4, n5, n6, n7, n8, n9]; try rfl)); simp only [zp, zq, z0, z1])
    ((with_reducible apply sd_q); exact zo rfl)
    ((with_reducible apply sd_load_agg hp); exact rfl; exact zt rfl; infer_instance; infer_instance; (first | exact zl rfl | exact LB_le (by omega)); (first | (with_reducible exact LB_set (by omega)) | (simp only [n0, Nat.reduceAdd, n1, n2, n3, n4, n5, n6, n7, n8, n9]; try rfl)); simp only [zp, zq, z0, z1])
    (with_reducible apply sd_b2)
    · skip
      ((with_reducible apply sd_l); exact zo rfl)
      ((with_reducible apply sd_call hp); exact rfl; (focus (intro _; go_simp; try first | with_reducible rfl | exact ⟨rfl, rfl⟩)); (with_reducible first | exact fun w => C1.out w | exact fun w => C2.out w); exact hq; clear hp hq; (try clear w1); intro w1 hp hq; simp only [zp, zq, z0, z1])
      (with_reducible apply sd_b2)
      · skip
        ((with_reducible apply sd_l); exact zo rfl)
        ((with_reducible apply sd_call hp); exact rfl; (focus (intro _; go_simp; try first | with_reducible rfl | exact ⟨rfl, rfl⟩)); (with_reducible first | exact fun w => C1.out w | exact fun w => C2.out w); exact hq; clear hp hq; (try clear w1); intro w1 hp hq; simp only [zp, zq, z0, z1])
        ((with_reducible apply sd_l); exact zo rfl)
        ((with_reducible apply sd_alloc hq); (repeat (first | exact List.Sublist.refl _ | apply List.Sublist.cons)); exact rfl; infer_instance; exact rfl; clear hp hq; (try clear w1); intro g w1 hp hq; simp only [zp, zq, z0, z1])
        ((with_reducible apply sd_l); exact zo rfl)
        (first
      | ((with_reducible apply sd_store_far hq); exact rfl; exact zt rfl; exact za rfl; exact rfl; (first | exact AggTy.size | exact OneTy.size); exact rfl; infer_instance; (first | (with_reducible exact LB_set (by omega)) | (simp only [n0, Nat.reduceAdd, n1, n2, n3, n4, n5, n6, n7, n8, n9]; try rfl)); (first | exact zl rfl | exact LB_le (by omega)); exact rfl; infer_instance; (repeat (first | exact List.Sublist.refl _ | apply List.Sublist.cons)); clear hp hq; (try clear w1); intro w1 hp hq)
      | ((with_reducible apply sd_store hq); exact rfl; exact zt rfl; exact za rfl; exact rfl; (first | exact AggTy.size | exact OneTy.size); exact rfl; infer_instance; (first | (with_reducible exact LB_set (by omega)) | (simp only [n0, Nat.reduceAdd, n1, n2, n3, n4, n5, n6, n7, n8, n9]; try rfl)); (first | exact zl rfl | exact LB_le (by omega)); exact rfl; infer_instance; exact rfl; clear hp hq; (try clear w1); intro w1 hq; have hp := True.intro))
        (with_reducible apply sd_nil)
        clear hp; have hp := hq; clear hq
        (go_wp2_with fail; go_meet; exact ⟨_, rfl, hp⟩)
      · skip
        ((with_reducible apply sd_l); exact zo rfl)
        ((with_reducible apply sd_alloc hq); (repeat (first | exact List.Sublist.refl _ | apply List.Sublist.cons)); exact rfl; infer_instance; exact rfl; clear hp hq; (try clear w1); intro g w1 hp hq; simp only [zp, zq, z0, z1])
        ((with_reducible apply sd_l); exact zo rfl)
        ((with_reducible apply sd_call hp); exact rfl; (focus (intro _; go_simp; try first | with_reducible rfl | exact ⟨rfl, rfl⟩)); (with_reducible first | exact fun w => C1.out w | exact fun w => C2.out w); exact hq; clear hp hq; (try clear w1); intro w1 hp hq; simp only [zp, zq, z0, z1])
        ((with_reducible apply sd_l); exact zo rfl)
        (first
      | ((with_reducible apply sd_store_far hq); exact rfl; exact zt rfl; exact za rfl; exact rfl; (first | exact AggTy.size | exact OneTy.size); exact rfl; infer_instance; (first | (with_reducible exact LB_set (by omega)) | (simp only [n0, Nat.reduceAdd, n1, n2, n3, n4, n5, n6, n7, n8, n9]; try rfl)); (first | exact zl rfl | exact LB_le (by omega)); exact rfl; infer_instance; (repeat (first | exact List.Sublist.refl _ | apply List.Sublist.cons)); clear hp hq; (try clear w1); intro w1 hp hq)
      | ((with_reducible apply sd_store hq); exact rfl; exact zt rfl; exact za rfl; exact rfl; (first | exact AggTy.size | exact OneTy.size); exact rfl; infer_instance; (first | (with_reducible exact LB_set (by omega)) | (simp only [n0, Nat.reduceAdd, n1, n2, n3, n4, n5, n6, n7, n8, n9]; try rfl)); (first | exact zl rfl | exact LB_le (by omega)); exact rfl; infer_instance; exact rfl; clear hp hq; (try clear w1); intro w1 hq; have hp := True.intro))
        (with_reducible apply sd_nil)
        clear hp; have hp := hq; clear hq
        (go_wp2_with fail; go_meet; exact ⟨_, rfl, hp⟩)
    · skip
      ((with_reducible apply sd_l); exact zo rfl)
      ((with_reducible apply sd_alloc hq); (repeat (first | exact List.Sublist.refl _ | apply List.Sublist.cons)); exact rfl; infer_instance; exact rfl; clear hp hq; (try clear w1); intro g w1 hp hq; simp only [zp, zq, z0, z1])
      ((with_reducible apply sd_l); exact zo rfl)
      ((with_reducible apply sd_call hp); exact rfl; (focus (intro _; go_simp; try first | with_reducible rfl | exact ⟨rfl, rfl⟩)); (with_reducible first | exact fun w => C1.out w | exact fun w => C2.out w); exact hq; clear hp hq; (try clear w1); intro w1 hp hq; simp only [zp, zq, z0, z1])
      ((with_reducible apply sd_l); exact zo rfl)
      ((with_reducible apply sd_call hp); exact rfl; (focus (intro _; go_simp; try first | with_reducible rfl | exact ⟨rfl, rfl⟩)); (with_reducible first | exact fun w => C1.out w | exact fun w => C2.out w); exact hq; clear hp hq; (try clear w1); intro w1 hp hq; simp only [zp, zq, z0, z1])
      ((with_reducible apply sd_l); exact zo rfl)
      (first
      | ((with_reducible apply sd_store_far hq); exact rfl; exact zt rfl; exact za rfl; exact rfl; (first | exact AggTy.size | exact OneTy.size); exact rfl; infer_instance; (first | (with_reducible exact LB_set (by omega)) | (simp only [n0, Nat.reduceAdd, n1, n2, n3, n4, n5, n6, n7, n8, n9]; try rfl)); (first | exact zl rfl | exact LB_le (by omega)); exact rfl; infer_instance; (repeat (first | exact List.Sublist.refl _ | apply List.Sublist.cons)); clear hp hq; (try clear w1); intro w1 hp hq)
      | ((with_reducible apply sd_store hq); exact rfl; exact zt rfl; exact za rfl; exact rfl; (first | exact AggTy.size | exact OneTy.size); exact rfl; infer_instance; (first | (with_reducible exact LB_set (by omega)) | (simp only [n0, Nat.reduceAdd, n1, n2, n3, n4, n5, n6, n7, n8, n9]; try rfl)); (first | exact zl rfl | exact LB_le (by omega)); exact rfl; infer_instance; exact rfl; clear hp hq; (try clear w1); intro w1 hq; have hp := True.intro))
      (with_reducible apply sd_nil)
      clear hp; have hp := hq; clear hq
      (go_wp2_with fail; go_meet; exact ⟨_, rfl, hp⟩)
  case rest =>
  clear hp C1 C2 S1 S2 S3
  obtain ⟨g10, rfl, hp⟩ := hcut
  cases f1
  · obtain rfl := HN.out (by simp)
    clear HN HG
    go_wp2_with (first
          | ((with_reducible refine sx_guard ?_); (conv => whnf); refine Bx.mk ?_; (try simp only [zp, zq, z0, z1]))
          | ((with_reducible apply sx_box hp); exact za rfl; exact rfl; clear hp; (try clear w1); intro g w1 hp; simp only [zp, zq, z0, z1])
          | ((with_reducible apply sx_alloc hp); infer_instance; exact rfl; clear hp; (try clear w1); intro g w1 hp; simp only [zp, zq, z0, z1])
          | ((with_reducible apply sx_load_agg hp); exact zt rfl; infer_instance; infer_instance; (first | exact zl rfl | exact LB_le (by omega)); (first | (with_reducible exact LB_set (by omega)) | (simp only [n0, Nat.reduceAdd, n1, n2, n3, n4, n5, n6, n7, n8, n9]; try rfl)); simp only [zp, zq, z0, z1])
          | ((with_reducible apply sx_store hp); exact zt rfl; exact za rfl; exact rfl; (first | exact AggTy.size | exact OneTy.size); exact rfl; infer_instance; (first | (with_reducible exact LB_set (by omega)) | (simp only [n0, Nat.reduceAdd, n1, n2, n3, n4, n5, n6, n7, n8, n9]; try rfl)); (first | exact zl rfl | exact LB_le (by omega)); exact rfl; infer_instance; clear hp; (try clear w1); intro w1 hp)
          | ((with_reducible refine sx_call hp (SD.out _) ?_); clear hp; (try clear w1); intro w1 hp))
    exact bodyPost_ret (results_two rfl ⟨_, rfl, run_load_agg hp (Nat.le_of_ble_eq_true rfl)⟩ rfl) rfl ⟨rfl, hp.keep⟩
  cases f2
  · obtain rfl := HN.out (by simp)
    clear HN HG
    go_wp2_with (first
          | ((with_reducible refine sx_guard ?_); (conv => whnf); refine Bx.mk ?_; (try simp only [zp, zq, z0, z1]))
          | ((with_reducible apply sx_box hp); exact za rfl; exact rfl; clear hp; (try clear w1); intro g w1 hp; simp only [zp, zq, z0, z1])
          | ((with_reducible apply sx_alloc hp); infer_instance; exact rfl; clear hp; (try clear w1); intro g w1 hp; simp only [zp, zq, z0, z1])
          | ((with_reducible apply sx_load_agg hp); exact zt rfl; infer_instance; infer_instance; (first | exact zl rfl | exact LB_le (by omega)); (first | (with_reducible exact LB_set (by omega)) | (simp only [n0, Nat.reduceAdd, n1, n2, n3, n4, n5, n6, n7, n8, n9]; try rfl)); simp only [zp, zq, z0, z1])
          | ((with_reducible apply sx_store hp); exact zt rfl; exact za rfl; exact rfl; (first | exact AggTy.size | exact OneTy.size); exact rfl; infer_instance; (first | (with_reducible exact LB_set (by omega)) | (simp only [n0, Nat.reduceAdd, n1, n2, n3, n4, n5, n6, n7, n8, n9]; try rfl)); (first | exact zl rfl | exact LB_le (by omega)); exact rfl; infer_instance; clear hp; (try clear w1); intro w1 hp)
          | ((with_reducible refine sx_call hp (SD.out _) ?_); clear hp; (try clear w1); intro w1 hp))
    exact bodyPost_ret (results_two rfl ⟨_, rfl, run_load_agg hp (Nat.le_of_ble_eq_true rfl)⟩ rfl) rfl ⟨rfl, hp.keep⟩
  cases f3
  · obtain rfl := HN.out (by simp)
    clear HN HG
    go_wp2_with (first
          | ((with_reducible refine sx_guard ?_); (conv => whnf); refine Bx.mk ?_; (try simp only [zp, zq, z0, z1]))
          | ((with_reducible apply sx_box hp); exact za rfl; exact rfl; clear hp; (try clear w1); intro g w1 hp; simp only [zp, zq, z0, z1])
          | ((with_reducible apply sx_alloc hp); infer_instance; exact rfl; clear hp; (try clear w1); intro g w1 hp; simp only [zp, zq, z0, z1])
          | ((with_reducible apply sx_load_agg hp); exact zt rfl; infer_instance; infer_instance; (first | exact zl rfl | exact LB_le (by omega)); (first | (with_reducible exact LB_set (by omega)) | (simp only [n0, Nat.reduceAdd, n1, n2, n3, n4, n5, n6, n7, n8, n9]; try rfl)); simp only [zp, zq, z0, z1])
          | ((with_reducible apply sx_store hp); exact zt rfl; exact za rfl; exact rfl; (first | exact AggTy.size | exact OneTy.size); exact rfl; infer_instance; (first | (with_reducible exact LB_set (by omega)) | (simp only [n0, Nat.reduceAdd, n1, n2, n3, n4, n5, n6, n7, n8, n9]; try rfl)); (first | exact zl rfl | exact LB_le (by omega)); exact rfl; infer_instance; clear hp; (try clear w1); intro w1 hp)
          | ((with_reducible refine sx_call hp (SD.out _) ?_); clear hp; (try clear w1); intro w1 hp))
    exact bodyPost_ret (results_two rfl ⟨_, rfl, run_load_agg hp (Nat.le_of_ble_eq_true rfl)⟩ rfl) rfl ⟨rfl, hp.keep⟩
  cases fd
  · obtain rfl := HG.out rfl rfl rfl rfl
    clear HN HG
    go_wp2_with (first
          | ((with_reducible refine sx_guard ?_); (conv => whnf); refine Bx.mk ?_; (try simp only [zp, zq, z0, z1]))
          | ((with_reducible apply sx_box hp); exact za rfl; exact rfl; clear hp; (try clear w1); intro g w1 hp; simp only [zp, zq, z0, z1])
          | ((with_reducible apply sx_alloc hp); infer_instance; exact rfl; clear hp; (try clear w1); intro g w1 hp; simp only [zp, zq, z0, z1])
          | ((with_reducible apply sx_load_agg hp); exact zt rfl; infer_instance; infer_instance; (first | exact zl rfl | exact LB_le (by omega)); (first | (with_reducible exact LB_set (by omega)) | (simp only [n0, Nat.reduceAdd, n1, n2, n3, n4, n5, n6, n7, n8, n9]; try rfl)); simp only [zp, zq, z0, z1])
          | ((with_reducible apply sx_store hp); exact zt rfl; exact za rfl; exact rfl; (first | exact AggTy.size | exact OneTy.size); exact rfl; infer_instance; (first | (with_reducible exact LB_set (by omega)) | (simp only [n0, Nat.reduceAdd, n1, n2, n3, n4, n5, n6, n7, n8, n9]; try rfl)); (first | exact zl rfl | exact LB_le (by omega)); exact rfl; infer_instance; clear hp; (try clear w1); intro w1 hp)
          | ((with_reducible first | refine sx_call hp (SD.out _) ?_ | refine sx_call hp (D1.out _) ?_ | refine sx_call hp (D2.out _) ?_ | refine sx_call hp (D3.out _) ?_); clear hp; (try clear w1); intro w1 hp))
    exact bodyPost_ret (results_two rfl ⟨_, rfl, run_load_agg hp (Nat.le_of_ble_eq_true rfl)⟩ rfl) rfl ⟨rfl, hp.keep⟩
  · obtain rfl := HN.out (by simp)
    clear HN HG
    go_wp2_with (first
          | ((with_reducible refine sx_guard ?_); (conv => whnf); refine Bx.mk ?_; (try simp only [zp, zq, z0, z1]))
          | ((with_reducible apply sx_box hp); exact za rfl; exact rfl; clear hp; (try clear w1); intro g w1 hp; simp only [zp, zq, z0, z1])
          | ((with_reducible apply sx_alloc hp); infer_instance; exact rfl; clear hp; (try clear w1); intro g w1 hp; simp only [zp, zq, z0, z1])
          | ((with_reducible apply sx_load_agg hp); exact zt rfl; infer_instance; infer_instance; (first | exact zl rfl | exact LB_le (by omega)); (first | (with_reducible exact LB_set (by omega)) | (simp only [n0, Nat.reduceAdd, n1, n2, n3, n4, n5, n6, n7, n8, n9]; try rfl)); simp only [zp, zq, z0, z1])
          | ((with_reducible apply sx_store hp); exact zt rfl; exact za rfl; exact rfl; (first | exact AggTy.size | exact OneTy.size); exact rfl; infer_instance; (first | (with_reducible exact LB_set (by omega)) | (simp only [n0, Nat.reduceAdd, n1, n2, n3, n4, n5, n6, n7, n8, n9]; try rfl)); (first | exact zl rfl | exact LB_le (by omega)); exact rfl; infer_instance; clear hp; (try clear w1); intro w1 hp)
          | ((with_reducible refine sx_call hp (SD.out _) ?_); clear hp; (try clear w1); intro w1 hp))
    exact bodyPost_ret (results_two rfl ⟨_, rfl, run_load_agg hp (Nat.le_of_ble_eq_true rfl)⟩ rfl) rfl ⟨rfl, hp.keep⟩
theorem sgn_eqz (d : Int) : (sgn d == 0) = decide (d = 0) := by
  by_cases h : d = 0
  · rw [h]; rfl
  · have := sgn_ne h
    rw [decide_eq_false h]
    simp [this]
theorem rprime_any (x y z : Int) (hx : Fit x) (hy : Fit y) (hz : Fit z) (w : World) : Calls Try.prog 18 #[Sv x y z] w (Ret (prv x y z) w) := by
  have a1 := az_nonneg x
  have a2 := az_nonneg y
  have a3 := az_nonneg z
  have f1 := fz_fit' (az x)
  have f2 := fz_fit' (az y)
  have f3 := fz_fit' (az z)
  have n1 := fz_nonneg a1
  have n2 := fz_nonneg a2
  have n3 := fz_nonneg a3
  have c1 := cg_fit f1 f2 n1 n2
  have m1 := cg_nonneg (fz (az x)) (fz (az y))
  have c2 := cg_fit c1 f3 m1 n3
  have he := gacc_eq x y z
  refine rprime_core x y z (fz (az x)) (fz (az y)) (fz (az z)) (cg (fz (az x)) (fz (az y))) (cg (cg (fz (az x)) (fz (az y))) (fz (az z))) _ _ _ _ _ _ (decide (Fit (az x))) (decide (Fit (az y))) (decide (Fit (az z))) (decide (cg (cg (fz (az x)) (fz (az y))) (fz (az z)) = 0)) _ _ _ _ (Lib.hid ?_) (Lib.hid ?_)
    (Lib.hid fun w => rsize6_any x hx w) (Lib.hid fun w => rsize6_any y hy w) (Lib.hid fun w => rsize6_any z hz w) (Lib.hid fun w => rcommon_any _ _ f1 f2 n1 n2 w) (Lib.hid fun w => rcommon_any _ _ c1 f3 m1 n3 w)
    (Lib.hid fun w => rsign_any _ c2 w) (sgn_eqz _) (Lib.hid fun w => rdiv_any _ _ hx c2 w) (Lib.hid fun w => rdiv_any _ _ hy c2 w) (Lib.hid fun w => rdiv_any _ _ hz c2 w) w
  · intro h1 h2 h3 h4
    have h1 := of_decide_eq_true h1
    have h2 := of_decide_eq_true h2
    have h3 := of_decide_eq_true h3
    have h4 := of_decide_eq_false h4
    unfold prv
    rw [he, if_pos ⟨h1, h2, h3⟩]
    simp only [fz, if_pos h1, if_pos h2, if_pos h3] at h4 ⊢
    have e : cg (cg (az x) (az y)) (az z) = (g3 x y z : Int) := by simp only [cg, az_abs, g3, m0]
    rw [e] at h4 ⊢
    rw [if_neg h4]
  · intro h
    unfold prv
    rw [he]
    by_cases hf : Fit (az x) ∧ Fit (az y) ∧ Fit (az z)
    · rw [if_pos hf]
      obtain ⟨h1, h2, h3⟩ := hf
      have e : cg (cg (az x) (az y)) (az z) = (g3 x y z : Int) := by simp only [cg, az_abs, g3, m0]
      simp only [fz, if_pos h1, if_pos h2, if_pos h3, e, h1, h2, h3, decide_true, true_and, decide_eq_false_iff_not, Decidable.not_not] at h
      simp only [if_true, e] at h
      dsimp only
      rw [if_pos h, Sv_zero]
    · rw [if_neg hf]
      dsimp only
      rw [Sv_zero]
set_option maxHeartbeats 4000000 in
theorem prime_core (x y z p q r : Int) (o : Bool)
    (H1 : Hid (∀ w, Calls Try.prog 17 #[Sv x y z] w (Ret (.tuple #[Sv p q r, .bool o]) w)))
    (H2 : Hid (∀ w, Calls Try.prog 18 #[Sv x y z] w (Ret (.tuple #[Sv p q r, .bool o]) w))) (w : World) :
    Calls Try.prog 4 #[Sv x y z] w (Ret (.bool true) w) := by
  go_enter Try.func4, Try.ntmps4
  have hp := Hp.start [] w
  go_wp2_with (first
          | ((with_reducible apply sx_box hp); exact za rfl; exact rfl; clear hp; (try clear w1); intro g w1 hp; simp only [zp, zq, z0, z1])
          | ((with_reducible apply sx_alloc hp); infer_instance; exact rfl; clear hp; (try clear w1); intro g w1 hp; simp only [zp, zq, z0, z1])
          | ((with_reducible apply sx_load_agg hp); exact zt rfl; infer_instance; infer_instance; (first | exact zl rfl | exact LB_le (by omega)); (first | (with_reducible exact LB_set (by omega)) | (simp only [n0, Nat.reduceAdd, n1, n2, n3, n4, n5, n6, n7, n8, n9]; try rfl)); simp only [zp, zq, z0, z1])
          | ((with_reducible apply sx_store hp); exact zt rfl; exact za rfl; exact rfl; (first | exact AggTy.size | exact OneTy.size); exact rfl; infer_instance; (first | (with_reducible exact LB_set (by omega)) | (simp only [n0, Nat.reduceAdd, n1, n2, n3, n4, n5, n6, n7, n8, n9]; try rfl)); (first | exact zl rfl | exact LB_le (by omega)); exact rfl; infer_instance; clear hp; (try clear w1); intro w1 hp)
          | ((with_reducible first | refine sx_call hp (H1.out _) ?_ | refine sx_call hp (H2.out _) ?_ | refine sx_call hp (awake6 _) ?_); clear hp; (try clear w1); intro w1 hp))
  exact bodyPost_ret (results_one rfl rfl) rfl ⟨rfl, hp.keep⟩
theorem prime_law (n : S3) (hn : n.fit) (w : World) : Calls Try.prog 4 #[Sv n.x n.y n.z] w (Ret (.bool true) w) := by
  obtain ⟨x, y, z⟩ := n
  obtain ⟨h1, h2, h3⟩ := hn
  have H1 := fun w => prime_any x y z h1 h2 h3 w
  have H2 := fun w => rprime_any x y z h1 h2 h3 w
  have key : ∃ p q r o, prv x y z = .tuple #[Sv p q r, .bool o] := by
    rcases prv_cases x y z h1 h2 h3 with e | ⟨g, X, Y, Z, _, _, _, _, _, _, _, _, e, _⟩
    · exact ⟨_, _, _, _, e⟩
    · exact ⟨_, _, _, _, e⟩
  obtain ⟨p, q, r, o, e⟩ := key
  rw [e] at H1 H2
  exact prime_core x y z p q r o (Lib.hid H1) (Lib.hid H2) w
end Go.Proofs.Ytbhlnbllkoomfaa
