/-
  Package ninepinref01: Div (contract).
-/
import Derived.Test.YtbdkbmhejoakiaaGreatDoorCb
import Derived.Test.YtbdkbmhejoakiaaGreatDoorDf
set_option linter.unusedSimpArgs false
set_option linter.unusedVariables false
set_option maxRecDepth 100000
namespace Go.Proofs.YtbdkbmhejoakiaaGreatDoor
open Go Go.RowKit
attribute [local irreducible] wpList

theorem results_cct {P : Program} {w : World} {fn : Func} {tmps : Array Value} {p q r : Nat} {t u : TypeId} {a b : Addr} {x y z : Value} (hf : fn.results = #[.cell p t, .cell q u, .tmp r])
    (h1 : tmps.getD p undef = .pointer (some a)) (h1' : (loadVar t a).run P w = .ok x w) (h2 : tmps.getD q undef = .pointer (some b)) (h2' : (loadVar u b).run P w = .ok y w) (h3 : tmps.getD r undef = z) :
    (results fn tmps).run P w = .ok (.tuple #[x, y, z]) w := by
  have e1 : tmps[p]?.getD undef = .pointer (some a) := by simpa using h1
  have e2 : tmps[q]?.getD undef = .pointer (some b) := by simpa using h2
  have e3 : tmps[r]?.getD undef = z := by simpa using h3
  simp [results, hf, e1, e2, e3, asAddr, h1', h2']
theorem tab_one' (L : Nat) : tab (upd (fun _ => 0) 0 1) L = tab (bt 1) L := by
  rw [← tab_one]
  refine tab_congr fun j _ => ?_
  unfold upd
  split
  · rfl
  · exact (bt_zero j).symm
theorem bsl_one {w : World} {g L : Nat} {t : TypeId} (h : w.heap[g]? = some (.cells (tab (upd (fun _ => 0) 0 1) L).toArray t (0, 0))) : BSl w (.slice (some ⟨g, 0, none⟩) L L) 1 L :=
  BSl.of (t := t) (by rw [← tab_one']; exact h)
set_option maxHeartbeats 8000000 in
theorem rdiv_core (a b A B Q2 R1 R2 : Int) (sa sb : Bool) (v : Value)
    (hA0 : 0 ≤ A) (hB0 : 0 < B) (HA5 : Hid (A < 2 ^ 520)) (HB5 : Hid (B < 2 ^ 520)) (HBM : Hid (B ≤ M511)) (HQA : Hid (-(M511 * 256) ≤ Q2 ∧ Q2 < M511 * 256))
    (HV1 : Hid (Fit Q2 → v = .tuple #[W Q2, W R2, .bool true])) (HV2 : Hid (¬ Fit Q2 → v = .tuple #[.agg #[.int .u64 0, .int .u64 0, .int .u64 0, .int .u64 0, .int .u64 0, .int .u64 0, .int .u64 0, .int .u64 0], .agg #[.int .u64 0, .int .u64 0, .int .u64 0, .int .u64 0, .int .u64 0, .int .u64 0, .int .u64 0, .int .u64 0], .bool false]))
    (H1 : Hid ((sa == sb) = true → Q2 = A / B ∧ R1 = A % B))
    (H2 : Hid ((sa == sb) = false → A % B = 0 → Q2 = -(A / B) ∧ R1 = A % B))
    (H3 : Hid ((sa == sb) = false → A % B ≠ 0 → Q2 = -(A / B + 1) ∧ R1 = B + -(A % B)))
    (H4 : Hid (R2 = if sb then -R1 else R1)) (HR : Hid (Fit R2))
    (HSB : Hid (∀ w, Calls Tryz.prog 66 #[W b] w (Ret (.int .i64 (sgn b)) w))) (hsg : (sgn b == 0) = false)
    (ZA : Hid (∀ w, Calls Tryz.prog 48 #[W a] w (Ret (.bool sa) w)))
    (ZB : Hid (∀ w, Calls Tryz.prog 48 #[W b] w (Ret (.bool sb) w)))
    (SA : Hid (∀ w, Calls Tryz.prog 60 #[W a] w (RetN (fun g => .slice (some ⟨g, 0, none⟩) 520 520) 3 (tab (bt A) 520) w)))
    (SB : Hid (∀ w, Calls Tryz.prog 60 #[W b] w (RetN (fun g => .slice (some ⟨g, 0, none⟩) 520 520) 3 (tab (bt B) 520) w)))
    (w : World) : Calls Tryz.prog 65 #[W a, W b] w (Ret v w) := by
  go_enter Tryz.func65, Tryz.ntmps65
  have hp := Hp.start [] w
  go_wp2_with (first
          | ((with_reducible apply sx_box hp); exact za rfl; exact rfl; clear hp; (try clear w1); intro g w1 hp; simp only [zp, zq, z0, z1])
          | ((with_reducible apply sx_alloc hp); infer_instance; exact rfl; clear hp; (try clear w1); intro g w1 hp; simp only [zp, zq, z0, z1])
          | ((with_reducible apply sx_load_agg hp); exact zt rfl; infer_instance; infer_instance; (first | exact zl rfl | exact LB_le (by omega)); (first | (with_reducible exact LB_set (by omega)) | (simp only [n0, Nat.reduceAdd, n1, n2, n3, n4, n5, n6, n7, n8, n9]; try rfl)); simp only [zp, zq, z0, z1])
          | ((with_reducible apply sx_store hp); exact zt rfl; (first | exact za rfl | exact zi rfl); exact rfl; (first | exact AggTy.size | exact OneTy.size); exact rfl; infer_instance; (first | (with_reducible exact LB_set (by omega)) | (simp only [n0, Nat.reduceAdd, n1, n2, n3, n4, n5, n6, n7, n8, n9]; try rfl)); (first | exact zl rfl | exact LB_le (by omega)); exact rfl; infer_instance; clear hp; (try clear w1); intro w1 hp)
          | ((with_reducible apply sx_indexAddr); exact zx rfl; exact zk rfl; infer_instance; (first | exact AggTy.size | exact OneTy.size); omega; omega; ((try simp only [m0, Int.reduceToNat, m1, m2, Nat.reduceMul, Nat.reduceAdd, m3, m4, m5, n0]); exact rfl); simp only [zp, zq, z0, z1])
          | ((with_reducible apply sx_load_far hp); exact zt rfl; assumption; infer_instance; assumption; (first | exact zl rfl | omega); simp only [zp, zq, z0, z1])
          | ((with_reducible refine sx_call hp (HSB.out _) ?_); clear hp; (try clear w1); intro w1 hp))
  rename_i ga gb gp K hK
  obtain ⟨gp2, rfl⟩ : ∃ x : Nat, x = g := ⟨_, rfl⟩
  clear HSB hsg
  have hq := hp
  refine wp_drawn_hp hp hq [] (.q 0 (.q 2 (.l 1 (.l 3 (.q 4 (.q 5 .nil)))))) (by kernel_rfl) (by kernel_rfl) ?_
  clear hp hq; (try clear w1); intro w1 hp hq
  repeat' (first
    | (((with_reducible apply sd_q); exact zo rfl); (first
        | ((with_reducible apply sd_load_agg hp); exact rfl; exact zt rfl; infer_instance; infer_instance; (first | exact zl rfl | exact LB_le (by omega)); (first | (with_reducible exact LB_set (by omega)) | (simp only [n0, Nat.reduceAdd, n1, n2, n3, n4, n5, n6, n7, n8, n9]; try rfl)); simp only [zp, zq, z0, z1])
        | ((with_reducible apply sd_load_far hp); exact rfl; exact zt rfl; assumption; infer_instance; assumption; (first | exact zl rfl | omega); simp only [zp, zq, z0, z1])
        | ((with_reducible apply sd_assign hp); exact zs rfl; simp only [zp, zq, z0, z1])
        | ((with_reducible apply sd_pure hp); exact rfl; (focus (intro _; go_simp; (try go_ints); try with_reducible rfl)); simp only [zp, zq, z0, z1])))
    | (((with_reducible apply sd_l); exact zo rfl); (first
        | ((with_reducible apply sd_callN hq); (repeat (first | exact List.Sublist.refl _ | apply List.Sublist.cons)); exact rfl; (focus (intro _; go_simp; try first | with_reducible rfl | exact ⟨rfl, rfl⟩)); (with_reducible exact SA.out _); clear hp hq; (try clear w1); intro g w1 hp hq; simp only [zp, zq, z0, z1])
        | ((with_reducible apply sd_callN hq); (repeat (first | exact List.Sublist.refl _ | apply List.Sublist.cons)); exact rfl; (focus (intro _; go_simp; try first | with_reducible rfl | exact ⟨rfl, rfl⟩)); (with_reducible exact SB.out _); clear hp hq; (try clear w1); intro g w1 hp hq; simp only [zp, zq, z0, z1])))
    | ((with_reducible apply sd_nil); clear hp; have hp := hq; clear hq))
  rename_i gx
  obtain ⟨gy, rfl⟩ : ∃ x : Nat, x = g := ⟨_, rfl⟩
  clear SA SB
  have hta := tp_le A 520
  have htb := tp_le B 520
  go_wp2_with (first
          | ((with_reducible apply sx_box hp); exact za rfl; exact rfl; clear hp; (try clear w1); intro g w1 hp; simp only [zp, zq, z0, z1])
          | ((with_reducible apply sx_alloc hp); infer_instance; exact rfl; clear hp; (try clear w1); intro g w1 hp; simp only [zp, zq, z0, z1])
          | ((with_reducible apply sx_load_agg hp); exact zt rfl; infer_instance; infer_instance; (first | exact zl rfl | exact LB_le (by omega)); (first | (with_reducible exact LB_set (by omega)) | (simp only [n0, Nat.reduceAdd, n1, n2, n3, n4, n5, n6, n7, n8, n9]; try rfl)); simp only [zp, zq, z0, z1])
          | ((with_reducible apply sx_store hp); exact zt rfl; (first | exact za rfl | exact zi rfl); exact rfl; (first | exact AggTy.size | exact OneTy.size); exact rfl; infer_instance; (first | (with_reducible exact LB_set (by omega)) | (simp only [n0, Nat.reduceAdd, n1, n2, n3, n4, n5, n6, n7, n8, n9]; try rfl)); (first | exact zl rfl | exact LB_le (by omega)); exact rfl; infer_instance; clear hp; (try clear w1); intro w1 hp)
          | ((with_reducible apply sx_indexAddr); exact zx rfl; exact zk rfl; infer_instance; (first | exact AggTy.size | exact OneTy.size); omega; omega; ((try simp only [m0, Int.reduceToNat, m1, m2, Nat.reduceMul, Nat.reduceAdd, m3, m4, m5, n0]); exact rfl); simp only [zp, zq, z0, z1])
          | ((with_reducible apply sx_load_far hp); exact zt rfl; assumption; infer_instance; assumption; (first | exact zl rfl | omega); simp only [zp, zq, z0, z1])
          | ((with_reducible refine sx_call hp (rtop_any A 520 (by omega) _ _ (BSl.of hp.blk)) ?_); clear hp; (try clear w1); intro w1 hp)
          | ((with_reducible refine sx_call hp (rtop_any B 520 (by omega) _ _ (BSl.of hp.blk)) ?_); clear hp; (try clear w1); intro w1 hp)
          | ((with_reducible apply sx_makeSlice (n := 520) hp); infer_instance; infer_instance; exact (rfl : Value.int .i64 (520 : Int) = _); exact (rfl : Value.int .i64 (520 : Int) = _); omega; omega; clear hp; (try clear w1); intro g w1 hp; simp only [zp, zq, z0, z1]))
  obtain ⟨gq, rfl⟩ : ∃ x : Nat, x = g := ⟨_, rfl⟩
  have HTA := Lib.hid (lt_top hA0 HA5.out (tp_le A 520) fun j h1 h2 => tp_zero A h1 h2)
  have HTB := Lib.hid (lt_top (Int.le_of_lt hB0) HB5.out (tp_le B 520) fun j h1 h2 => tp_zero B h1 h2)
  have HTT : Hid (∀ t, tp B 520 = t + 1 → bt B t = 1) := Lib.hid fun t h => tp_top h
  generalize tp A 520 = tx at *
  generalize tp B 520 = ty at *
  have HT0 : Hid (ty = 0 → B < 1) := Lib.hid fun h => by have := HTB.out; rw [h] at this; simpa using this
  have hty : 0 < ty := by
    rcases Nat.eq_zero_or_pos ty with h | h
    · have := HT0.out h; omega
    · exact h
  go_loopw [10, 11] (fun rv nv wr => ∃ (k : Nat) (c : Int) (gr : Nat), rv = .slice (some ⟨gr, 0, none⟩) 520 520 ∧ nv = .int .i64 c ∧ (c = (k : Int) - 1 ∨ (c < 0 ∧ k = 0)) ∧ -600 ≤ c ∧ (k = 0 ∨ k + ty ≤ tx + 1) ∧ Hp [] w [⟨gr, 3, tab (bt (A % (B * 2 ^ k))) 520⟩, ⟨gq, 3, tab (bt (A / (B * 2 ^ k) * 2 ^ k)) 520⟩, ⟨gy, 3, tab (bt B) 520⟩, ⟨gp2, 30, [.int .u64 0, .int .u64 0, .int .u64 0, .int .u64 0, .int .u64 0, .int .u64 0, .int .u64 0, .int .u64 0]⟩, ⟨gp, 30, [.int .u64 0, .int .u64 0, .int .u64 0, .int .u64 0, .int .u64 0, .int .u64 0, .int .u64 0, .int .u64 0]⟩, ⟨gb, 30, [.int .u64 (lb (b) 0), .int .u64 (lb (b) 1), .int .u64 (lb (b) 2), .int .u64 (lb (b) 3), .int .u64 (lb (b) 4), .int .u64 (lb (b) 5), .int .u64 (lb (b) 6), .int .u64 (lb (b) 7)]⟩, ⟨ga, 30, [.int .u64 (lb (a) 0), .int .u64 (lb (a) 1), .int .u64 (lb (a) 2), .int .u64 (lb (a) 3), .int .u64 (lb (a) 4), .int .u64 (lb (a) 5), .int .u64 (lb (a) 6), .int .u64 (lb (a) 7)]⟩] wr) (fun _ nv _ => (intOf nv + 1).toNat)
  case atStart =>
    have hk : (tx + 1 - ty) + ty = tx + 1 ∨ (tx + 1 - ty = 0 ∧ tx < ty) := by omega
    obtain ⟨e1, e2⟩ := dv_zero A B hA0 _ (dv_start hA0 hB0 HTA.out HTT.out HT0.out hk)
    refine ⟨tx + 1 - ty, _, gx, rfl, rfl, by omega, by omega, by omega, ?_⟩
    rw [e1, e2, ← tab_zero]
    exact hp.perm (List.perm_middle (l₁ := [_, _]))
  case round =>
    clear hp
    obtain ⟨k, c, gr, rfl, rfl, hc, hcm, hk, hp⟩ := hrel
    by_cases hn : 0 ≤ c
    · obtain ⟨j, rfl⟩ : ∃ j, k = j + 1 := ⟨k - 1, by omega⟩
      obtain rfl : c = (j : Int) := by omega
      have hj : j ≤ 520 := by omega
      have hR0 : 0 ≤ A % (B * 2 ^ (j + 1)) := Int.emod_nonneg _ (by have := Int.mul_pos hB0 (pow_pos' (j + 1)); omega)
      have hRA : A % (B * 2 ^ (j + 1)) ≤ A := emod_le' hA0 (Int.mul_pos hB0 (pow_pos' (j + 1)))
      have hNO := Lib.hid (@dv_no A B hB0 j)
      have hYES := Lib.hid (@dv_yes A B hB0 j)
      have hroom : B * 2 ^ j / 2 ^ 520 = 0 := dv_room (Int.le_of_lt hB0) HTB.out (by omega) hta
      have hxy : A % (B * 2 ^ (j + 1)) / 2 ^ 520 = B * 2 ^ j / 2 ^ 520 := by
        rw [hroom]
        exact Int.ediv_eq_zero_of_lt hR0 (Int.lt_of_le_of_lt hRA HA5.out)
      have HXY := Lib.hid hxy
      have FU : Hid (∀ v w, BSl w v B 520 → Calls Tryz.prog 91 #[v, .int .i64 j] w (RetN (fun g => .slice (some ⟨g, 0, none⟩) 520 520) 3 (tab (bt (B * 2 ^ j)) 520) w)) := Lib.hid fun v w h => rfurther_any B 520 j (by omega) (by omega) v w h
      clear hR0 hRA hroom hxy
      generalize A % (B * 2 ^ (j + 1)) = R at *
      obtain ⟨M, hM⟩ : ∃ M, M = B * 2 ^ j := ⟨_, rfl⟩
      rw [← hM] at hNO hYES HXY FU
      have HM := Lib.hid hM
      clear hM
      obtain ⟨C, hC⟩ : ∃ C, C = A / (B * 2 ^ (j + 1)) := ⟨_, rfl⟩
      rw [← hC] at hp hNO hYES
      clear hC
      have hj5 : (j : Int) < 520 := by omega
      by_cases hlt : R < M
      · obtain ⟨e1, e2⟩ := hNO.out hlt
        have E1 := Lib.hid e1
        have E2 := Lib.hid e2
        clear e1 e2 hNO hYES
        have LE : Hid (∀ v1 v2 w, BSl w v1 R 520 → BSl w v2 M 520 → Calls Tryz.prog 84 #[v1, v2] w (Ret (.bool true) w)) := Lib.hid fun v1 v2 w h1 h2 => by
          have := rleast_any R M 520 (by omega) HXY.out v1 v2 w h1 h2
          rw [decide_eq_true hlt] at this
          exact this
        clear hlt
        go_wp2_with (first
          | ((with_reducible apply sx_box hp); exact za rfl; exact rfl; clear hp; (try clear w1); intro g w1 hp; simp only [zp, zq, z0, z1])
          | ((with_reducible apply sx_alloc hp); infer_instance; exact rfl; clear hp; (try clear w1); intro g w1 hp; simp only [zp, zq, z0, z1])
          | ((with_reducible apply sx_load_agg hp); exact zt rfl; infer_instance; infer_instance; (first | exact zl rfl | exact LB_le (by omega)); (first | (with_reducible exact LB_set (by omega)) | (simp only [n0, Nat.reduceAdd, n1, n2, n3, n4, n5, n6, n7, n8, n9]; try rfl)); simp only [zp, zq, z0, z1])
          | ((with_reducible apply sx_store hp); exact zt rfl; (first | exact za rfl | exact zi rfl); exact rfl; (first | exact AggTy.size | exact OneTy.size); exact rfl; infer_instance; (first | (with_reducible exact LB_set (by omega)) | (simp only [n0, Nat.reduceAdd, n1, n2, n3, n4, n5, n6, n7, n8, n9]; try rfl)); (first | exact zl rfl | exact LB_le (by omega)); exact rfl; infer_instance; clear hp; (try clear w1); intro w1 hp)
          | ((with_reducible apply sx_indexAddr); exact zx rfl; exact zk rfl; infer_instance; (first | exact AggTy.size | exact OneTy.size); omega; omega; ((try simp only [m0, Int.reduceToNat, m1, m2, Nat.reduceMul, Nat.reduceAdd, m3, m4, m5, n0]); exact rfl); simp only [zp, zq, z0, z1])
          | ((with_reducible apply sx_load_far hp); exact zt rfl; assumption; infer_instance; assumption; (first | exact zl rfl | omega); simp only [zp, zq, z0, z1])
          | ((with_reducible refine sx_callN hp (FU.out _ _ (BSl.of hp.blk)) ?_); clear hp; (try clear w1); intro g w1 hp)
          | ((with_reducible refine sx_call hp (LE.out _ _ _ (BSl.of hp.blk) (BSl.of hp.blk)) ?_); clear hp; (try clear w1); intro w1 hp))
        go_roundw
        case rel => exact ⟨j, _, gr, rfl, rfl, by omega, by omega, by omega, by rw [← HM.out, ← E1.out, ← E2.out]; exact hp.sub (List.sublist_cons_self _ _)⟩
        case measure => simp [intOf]
      · obtain ⟨e1, e2⟩ := hYES.out hlt
        have E1 := Lib.hid e1
        have E2 := Lib.hid e2
        clear e1 e2 hNO hYES
        have LE : Hid (∀ v1 v2 w, BSl w v1 R 520 → BSl w v2 M 520 → Calls Tryz.prog 84 #[v1, v2] w (Ret (.bool false) w)) := Lib.hid fun v1 v2 w h1 h2 => by
          have := rleast_any R M 520 (by omega) HXY.out v1 v2 w h1 h2
          rw [decide_eq_false hlt] at this
          exact this
        clear hlt
        go_wp2_with (first
          | ((with_reducible apply sx_box hp); exact za rfl; exact rfl; clear hp; (try clear w1); intro g w1 hp; simp only [zp, zq, z0, z1])
          | ((with_reducible apply sx_alloc hp); infer_instance; exact rfl; clear hp; (try clear w1); intro g w1 hp; simp only [zp, zq, z0, z1])
          | ((with_reducible apply sx_load_agg hp); exact zt rfl; infer_instance; infer_instance; (first | exact zl rfl | exact LB_le (by omega) | exact tab_le (by omega)); (first | (with_reducible exact LB_set (by omega)) | (with_reducible exact tab_set (by omega)) | (simp only [n0, Nat.reduceAdd, n1, n2, n3, n4, n5, n6, n7, n8, n9]; try rfl)); simp only [zp, zq, z0, z1])
          | ((with_reducible apply sx_store hp); exact zt rfl; (first | exact za rfl | exact zi rfl); exact rfl; (first | exact AggTy.size | exact OneTy.size); exact rfl; infer_instance; (first | (with_reducible exact LB_set (by omega)) | (with_reducible exact tab_set (by omega)) | (simp only [n0, Nat.reduceAdd, n1, n2, n3, n4, n5, n6, n7, n8, n9]; try rfl)); (first | exact zl rfl | exact LB_le (by omega) | exact tab_le (by omega)); exact rfl; infer_instance; clear hp; (try clear w1); intro w1 hp)
          | ((with_reducible apply sx_indexAddr); exact zx rfl; exact zk rfl; infer_instance; (first | exact AggTy.size | exact OneTy.size); omega; omega; ((try simp only [m0, Int.reduceToNat, m1, m2, Nat.reduceMul, Nat.reduceAdd, m3, m4, m5, n0]); exact rfl); simp only [zp, zq, z0, z1])
          | ((with_reducible apply sx_load_far hp); exact zt rfl; assumption; infer_instance; assumption; (first | exact zl rfl | omega); simp only [zp, zq, z0, z1])
          | ((with_reducible refine sx_callN hp (FU.out _ _ (BSl.of hp.blk)) ?_); clear hp; (try clear w1); intro g w1 hp)
          | ((with_reducible refine sx_call hp (LE.out _ _ _ (BSl.of hp.blk) (BSl.of hp.blk)) ?_); clear hp; (try clear w1); intro w1 hp)
          | ((with_reducible refine sx_callN hp (rminus_any M 520 (by omega) _ _ (BSl.of hp.blk)) ?_); clear hp; (try clear w1); intro g w1 hp)
          | ((with_reducible refine sx_callN hp (rplus_any R (-M) 520 (by omega) _ _ _ (BSl.of hp.blk) (BSl.of hp.blk)) ?_); clear hp; (try clear w1); intro g w1 hp))
        go_roundw
        case rel => exact ⟨j, _, _, rfl, rfl, by omega, by omega, by omega, by rw [← HM.out, ← E1.out, ← E2.out, ← dv_setbit]; exact hp.sub (.cons_cons _ (.cons _ (.cons _ (.cons _ (List.Sublist.refl _)))))⟩
        case measure => simp [intOf]
    · obtain rfl : k = 0 := by omega
      obtain ⟨e1, e2⟩ := dv_done A B
      rw [e1, e2] at hp
      clear e1 e2 hc hk hcm HTA HTB HTT HT0 hta htb
      have hR0 : 0 ≤ A % B := Int.emod_nonneg _ (by omega)
      have hRB : A % B < B := Int.emod_lt_of_pos _ hB0
      generalize A % B = R at *
      generalize A / B = Q at *
      have hRF : Fit R := by have := HBM.out; unfold Fit M511 at *; omega
      have OF : Hid (∀ v w, BSl w v R 520 → Calls Tryz.prog 63 #[v] w (Ret (.tuple #[W R, .bool true]) w)) := Lib.hid fun v w h => by
        have := rof520 R (by unfold Fit M511 at *; omega) v w h
        rw [fz, if_pos hRF, decide_eq_true hRF] at this
        exact this
      have SR : Hid (∀ w, Calls Tryz.prog 66 #[W R] w (Ret (.int .i64 (sgn R)) w)) := Lib.hid fun w => rsign_any R hRF w
      clear hRF hA0 HBM
      go_wp2_with (first
          | ((with_reducible apply sx_box hp); exact za rfl; exact rfl; clear hp; (try clear w1); intro g w1 hp; simp only [zp, zq, z0, z1])
          | ((with_reducible apply sx_alloc hp); infer_instance; exact rfl; clear hp; (try clear w1); intro g w1 hp; simp only [zp, zq, z0, z1])
          | ((with_reducible apply sx_load_agg hp); exact zt rfl; infer_instance; infer_instance; (first | exact zl rfl | exact LB_le (by omega)); (first | (with_reducible exact LB_set (by omega)) | (simp only [n0, Nat.reduceAdd, n1, n2, n3, n4, n5, n6, n7, n8, n9]; try rfl)); simp only [zp, zq, z0, z1])
          | ((with_reducible apply sx_store hp); exact zt rfl; (first | exact za rfl | exact zi rfl); exact rfl; (first | exact AggTy.size | exact OneTy.size); exact rfl; infer_instance; (first | (with_reducible exact LB_set (by omega)) | (simp only [n0, Nat.reduceAdd, n1, n2, n3, n4, n5, n6, n7, n8, n9]; try rfl)); (first | exact zl rfl | exact LB_le (by omega)); exact rfl; infer_instance; clear hp; (try clear w1); intro w1 hp)
          | ((with_reducible apply sx_indexAddr); exact zx rfl; exact zk rfl; infer_instance; (first | exact AggTy.size | exact OneTy.size); omega; omega; ((try simp only [m0, Int.reduceToNat, m1, m2, Nat.reduceMul, Nat.reduceAdd, m3, m4, m5, n0]); exact rfl); simp only [zp, zq, z0, z1])
          | ((with_reducible apply sx_load_far hp); exact zt rfl; assumption; infer_instance; assumption; (first | exact zl rfl | omega); simp only [zp, zq, z0, z1])
          | ((with_reducible refine sx_call hp (OF.out _ _ (BSl.of hp.blk)) ?_); clear hp; (try clear w1); intro w1 hp))
      have hq := hp
      refine wp_drawn_hp hp hq [] (.q 0 (.q 2 (.l 1 (.l 3 (.q 4 .nil))))) (by kernel_rfl) (by kernel_rfl) ?_
      clear hp hq; (try clear w1); intro w1 hp hq
      repeat' (first
        | (((with_reducible apply sd_q); exact zo rfl); (first
            | ((with_reducible apply sd_load_agg hp); exact rfl; exact zt rfl; infer_instance; infer_instance; (first | exact zl rfl | exact LB_le (by omega)); (first | (with_reducible exact LB_set (by omega)) | (simp only [n0, Nat.reduceAdd, n1, n2, n3, n4, n5, n6, n7, n8, n9]; try rfl)); simp only [zp, zq, z0, z1])
            | ((with_reducible apply sd_load_far hp); exact rfl; exact zt rfl; assumption; infer_instance; assumption; (first | exact zl rfl | omega); simp only [zp, zq, z0, z1])
            | ((with_reducible apply sd_pure hp); exact rfl; (focus (intro _; go_simp; (try go_ints); try with_reducible rfl)); simp only [zp, zq, z0, z1])))
        | (((with_reducible apply sd_l); exact zo rfl); ((with_reducible apply sd_call hp); exact rfl; (focus (intro _; go_simp; try first | with_reducible rfl | exact ⟨rfl, rfl⟩)); (with_reducible first | exact fun w => ZA.out w | exact fun w => ZB.out w); exact hq; clear hp hq; (try clear w1); intro w1 hp hq; simp only [zp, zq, z0, z1]))
        | ((with_reducible apply sd_nil); clear hp; have hp := hq; clear hq))
      go_upto_if 63 with fail
      go_cut [9, 10] (fun qv rv wx => ∃ g1 g2, qv = .slice (some ⟨g1, 0, none⟩) 520 520 ∧ rv = .slice (some ⟨g2, 0, none⟩) 520 520 ∧ Hp [] w [⟨g2, 3, tab (bt R1) 520⟩, ⟨g1, 3, tab (bt Q2) 520⟩, ⟨gp2, 30, [.int .u64 0, .int .u64 0, .int .u64 0, .int .u64 0, .int .u64 0, .int .u64 0, .int .u64 0, .int .u64 0]⟩, ⟨gp, 30, [.int .u64 0, .int .u64 0, .int .u64 0, .int .u64 0, .int .u64 0, .int .u64 0, .int .u64 0, .int .u64 0]⟩, ⟨gb, 30, [.int .u64 (lb (b) 0), .int .u64 (lb (b) 1), .int .u64 (lb (b) 2), .int .u64 (lb (b) 3), .int .u64 (lb (b) 4), .int .u64 (lb (b) 5), .int .u64 (lb (b) 6), .int .u64 (lb (b) 7)]⟩, ⟨ga, 30, [.int .u64 (lb (a) 0), .int .u64 (lb (a) 1), .int .u64 (lb (a) 2), .int .u64 (lb (a) 3), .int .u64 (lb (a) 4), .int .u64 (lb (a) 5), .int .u64 (lb (a) 6), .int .u64 (lb (a) 7)]⟩] wx)
      case first =>
        cases hs : (sa == sb) with
        | true =>
          obtain ⟨e1, e2⟩ := H1.out hs
          have E1 := Lib.hid e1
          have E2 := Lib.hid e2
          clear e1 e2 H1 H2 H3
          go_wp2_with (first
          | ((with_reducible apply sx_box hp); exact za rfl; exact rfl; clear hp; (try clear w1); intro g w1 hp; simp only [zp, zq, z0, z1])
          | ((with_reducible apply sx_alloc hp); infer_instance; exact rfl; clear hp; (try clear w1); intro g w1 hp; simp only [zp, zq, z0, z1])
          | ((with_reducible apply sx_load_agg hp); exact zt rfl; infer_instance; infer_instance; (first | exact zl rfl | exact LB_le (by omega)); (first | (with_reducible exact LB_set (by omega)) | (simp only [n0, Nat.reduceAdd, n1, n2, n3, n4, n5, n6, n7, n8, n9]; try rfl)); simp only [zp, zq, z0, z1])
          | ((with_reducible apply sx_store hp); exact zt rfl; (first | exact za rfl | exact zi rfl); exact rfl; (first | exact AggTy.size | exact OneTy.size); exact rfl; infer_instance; (first | (with_reducible exact LB_set (by omega)) | (simp only [n0, Nat.reduceAdd, n1, n2, n3, n4, n5, n6, n7, n8, n9]; try rfl)); (first | exact zl rfl | exact LB_le (by omega)); exact rfl; infer_instance; clear hp; (try clear w1); intro w1 hp)
          | ((with_reducible apply sx_indexAddr); exact zx rfl; exact zk rfl; infer_instance; (first | exact AggTy.size | exact OneTy.size); omega; omega; ((try simp only [m0, Int.reduceToNat, m1, m2, Nat.reduceMul, Nat.reduceAdd, m3, m4, m5, n0]); exact rfl); simp only [zp, zq, z0, z1])
          | ((with_reducible apply sx_load_far hp); exact zt rfl; assumption; infer_instance; assumption; (first | exact zl rfl | omega); simp only [zp, zq, z0, z1]))
          go_meet
          exact ⟨_, _, rfl, rfl, by rw [E1.out, E2.out]; exact hp.sub (.cons _ (.cons_cons _ (.cons_cons _ (.cons _ (List.Sublist.refl _)))))⟩
        | false =>
          by_cases hz : R = 0
          · obtain ⟨e1, e2⟩ := H2.out hs hz
            have E1 := Lib.hid e1
            have E2 := Lib.hid e2
            have hsg : (sgn R == 0) = true := by rw [hz]; rfl
            clear e1 e2 H1 H2 H3 hz
            go_wp2_with (first
          | ((with_reducible apply sx_box hp); exact za rfl; exact rfl; clear hp; (try clear w1); intro g w1 hp; simp only [zp, zq, z0, z1])
          | ((with_reducible apply sx_alloc hp); infer_instance; exact rfl; clear hp; (try clear w1); intro g w1 hp; simp only [zp, zq, z0, z1])
          | ((with_reducible apply sx_load_agg hp); exact zt rfl; infer_instance; infer_instance; (first | exact zl rfl | exact LB_le (by omega)); (first | (with_reducible exact LB_set (by omega)) | (simp only [n0, Nat.reduceAdd, n1, n2, n3, n4, n5, n6, n7, n8, n9]; try rfl)); simp only [zp, zq, z0, z1])
          | ((with_reducible apply sx_store hp); exact zt rfl; (first | exact za rfl | exact zi rfl); exact rfl; (first | exact AggTy.size | exact OneTy.size); exact rfl; infer_instance; (first | (with_reducible exact LB_set (by omega)) | (simp only [n0, Nat.reduceAdd, n1, n2, n3, n4, n5, n6, n7, n8, n9]; try rfl)); (first | exact zl rfl | exact LB_le (by omega)); exact rfl; infer_instance; clear hp; (try clear w1); intro w1 hp)
          | ((with_reducible apply sx_indexAddr); exact zx rfl; exact zk rfl; infer_instance; (first | exact AggTy.size | exact OneTy.size); omega; omega; ((try simp only [m0, Int.reduceToNat, m1, m2, Nat.reduceMul, Nat.reduceAdd, m3, m4, m5, n0]); exact rfl); simp only [zp, zq, z0, z1])
          | ((with_reducible apply sx_load_far hp); exact zt rfl; assumption; infer_instance; assumption; (first | exact zl rfl | omega); simp only [zp, zq, z0, z1])
          | ((with_reducible refine sx_call hp (SR.out _) ?_); clear hp; (try clear w1); intro w1 hp)
          | ((with_reducible refine sx_callN hp (rminus_any Q 520 (by omega) _ _ (BSl.of hp.blk)) ?_); clear hp; (try clear w1); intro g w1 hp))
            go_meet
            exact ⟨_, _, rfl, rfl, by rw [E1.out, E2.out]; exact (hp.sub (.cons_cons _ (.cons _ (.cons_cons _ (.cons _ (.cons _ (List.Sublist.refl _))))))).perm (List.Perm.swap _ _ _)⟩
          · obtain ⟨e1, e2⟩ := H3.out hs hz
            have E1 := Lib.hid e1
            have E2 := Lib.hid e2
            have hsg : (sgn R == 0) = false := by have := sgn_ne hz; simp [this]
            clear e1 e2 H1 H2 H3 hz
            go_wp2_with (first
          | ((with_reducible apply sx_box hp); exact za rfl; exact rfl; clear hp; (try clear w1); intro g w1 hp; simp only [zp, zq, z0, z1])
          | ((with_reducible apply sx_alloc hp); infer_instance; exact rfl; clear hp; (try clear w1); intro g w1 hp; simp only [zp, zq, z0, z1])
          | ((with_reducible apply sx_load_agg hp); exact zt rfl; infer_instance; infer_instance; (first | exact zl rfl | exact LB_le (by omega) | exact tab_le (by omega)); (first | (with_reducible exact LB_set (by omega)) | (with_reducible exact tab_set (by omega)) | (simp only [n0, Nat.reduceAdd, n1, n2, n3, n4, n5, n6, n7, n8, n9]; try rfl)); simp only [zp, zq, z0, z1])
          | ((with_reducible apply sx_store hp); exact zt rfl; (first | exact za rfl | exact zi rfl); exact rfl; (first | exact AggTy.size | exact OneTy.size); exact rfl; infer_instance; (first | (with_reducible exact LB_set (by omega)) | (with_reducible exact tab_set (by omega)) | (simp only [n0, Nat.reduceAdd, n1, n2, n3, n4, n5, n6, n7, n8, n9]; try rfl)); (first | exact zl rfl | exact LB_le (by omega) | exact tab_le (by omega)); exact rfl; infer_instance; clear hp; (try clear w1); intro w1 hp)
          | ((with_reducible apply sx_indexAddr); exact zx rfl; exact zk rfl; infer_instance; (first | exact AggTy.size | exact OneTy.size); omega; omega; ((try simp only [m0, Int.reduceToNat, m1, m2, Nat.reduceMul, Nat.reduceAdd, m3, m4, m5, n0]); exact rfl); simp only [zp, zq, z0, z1])
          | ((with_reducible apply sx_load_far hp); exact zt rfl; assumption; infer_instance; assumption; (first | exact zl rfl | omega); simp only [zp, zq, z0, z1])
          | ((with_reducible refine sx_call hp (SR.out _) ?_); clear hp; (try clear w1); intro w1 hp)
          | ((with_reducible apply sx_makeSlice (n := 520) hp); infer_instance; infer_instance; exact (rfl : Value.int .i64 (520 : Int) = _); exact (rfl : Value.int .i64 (520 : Int) = _); omega; omega; clear hp; (try clear w1); intro g w1 hp; simp only [zp, zq, z0, z1])
          | ((with_reducible refine sx_callN hp (rplus_any Q 1 520 (by omega) _ _ _ (BSl.of hp.blk) (bsl_one hp.blk)) ?_); clear hp; (try clear w1); intro g w1 hp)
          | ((with_reducible refine sx_callN hp (rminus_any R 520 (by omega) _ _ (BSl.of hp.blk)) ?_); clear hp; (try clear w1); intro g w1 hp)
          | ((with_reducible refine sx_callN hp (rplus_any B (-R) 520 (by omega) _ _ _ (BSl.of hp.blk) (BSl.of hp.blk)) ?_); clear hp; (try clear w1); intro g w1 hp)
          | ((with_reducible refine sx_callN hp (rminus_any (Q + 1) 520 (by omega) _ _ (BSl.of hp.blk)) ?_); clear hp; (try clear w1); intro g w1 hp))
            go_meet
            exact ⟨_, _, rfl, rfl, by rw [E1.out, E2.out]; exact (hp.sub (.cons_cons _ (.cons_cons _ (.cons _ (.cons _ (.cons _ (.cons _ (.cons _ (.cons _ (.cons _ (List.Sublist.refl _))))))))))).perm (List.Perm.swap _ _ _)⟩
      case rest =>
        clear hp H1 H2 H3 OF SR hn HA5 HB5 ZA
        obtain ⟨g1, g2, rfl, rfl, hp⟩ := hcut
        have OR : Hid (∀ v w, BSl w v R2 520 → Calls Tryz.prog 63 #[v] w (Ret (.tuple #[W R2, .bool true]) w)) := Lib.hid fun v w h => by
          have := rof520 R2 (by have := HR.out; unfold Fit M511 at *; omega) v w h
          rw [fz, if_pos HR.out, decide_eq_true HR.out] at this
          exact this
        clear HR hB0 hR0 hRB
        by_cases hf : Fit Q2
        · obtain rfl := HV1.out hf
          have OQ : Hid (∀ v w, BSl w v Q2 520 → Calls Tryz.prog 63 #[v] w (Ret (.tuple #[W Q2, .bool true]) w)) := Lib.hid fun v w h => by
            have := rof520 Q2 HQA.out v w h
            rw [fz, if_pos hf, decide_eq_true hf] at this
            exact this
          clear hf HV1 HV2 HQA
          cases sb with
          | true =>
            obtain rfl : R2 = -R1 := H4.out
            clear H4
            go_wp2_with (first
          | ((with_reducible refine sx_guard ?_); (conv => whnf); refine Bx.mk ?_; (try simp only [zp, zq, z0, z1]))
          | ((with_reducible apply sx_box hp); exact za rfl; exact rfl; clear hp; (try clear w1); intro g w1 hp; simp only [zp, zq, z0, z1])
          | ((with_reducible apply sx_alloc hp); infer_instance; exact rfl; clear hp; (try clear w1); intro g w1 hp; simp only [zp, zq, z0, z1])
          | ((with_reducible apply sx_load_agg hp); exact zt rfl; infer_instance; infer_instance; (first | exact zl rfl | exact LB_le (by omega)); (first | (with_reducible exact LB_set (by omega)) | (simp only [n0, Nat.reduceAdd, n1, n2, n3, n4, n5, n6, n7, n8, n9]; try rfl)); simp only [zp, zq, z0, z1])
          | ((with_reducible apply sx_store hp); exact zt rfl; (first | exact za rfl | exact zi rfl); exact rfl; (first | exact AggTy.size | exact OneTy.size); exact rfl; infer_instance; (first | (with_reducible exact LB_set (by omega)) | (simp only [n0, Nat.reduceAdd, n1, n2, n3, n4, n5, n6, n7, n8, n9]; try rfl)); (first | exact zl rfl | exact LB_le (by omega)); exact rfl; infer_instance; clear hp; (try clear w1); intro w1 hp)
          | ((with_reducible apply sx_indexAddr); exact zx rfl; exact zk rfl; infer_instance; (first | exact AggTy.size | exact OneTy.size); omega; omega; ((try simp only [m0, Int.reduceToNat, m1, m2, Nat.reduceMul, Nat.reduceAdd, m3, m4, m5, n0]); exact rfl); simp only [zp, zq, z0, z1])
          | ((with_reducible apply sx_load_far hp); exact zt rfl; assumption; infer_instance; assumption; (first | exact zl rfl | omega); simp only [zp, zq, z0, z1])
          | ((with_reducible refine sx_call hp (ZB.out _) ?_); clear hp; (try clear w1); intro w1 hp)
          | ((with_reducible refine sx_callN hp (rminus_any R1 520 (by omega) _ _ (BSl.of hp.blk)) ?_); clear hp; (try clear w1); intro g w1 hp)
          | ((with_reducible refine sx_call hp (OQ.out _ _ (BSl.of hp.blk)) ?_); clear hp; (try clear w1); intro w1 hp)
          | ((with_reducible refine sx_call hp (OR.out _ _ (BSl.of hp.blk)) ?_); clear hp; (try clear w1); intro w1 hp))
            have hq := hp
            clear hp
            have hp := hq.sub (.cons_cons _ (.cons_cons _ (.cons_cons _ (.cons_cons _ (.cons_cons _ (.cons _ (.cons _ (List.Sublist.refl _))))))))
            refine wp_drawn_hp hp hq [3] (.q 0 (.q 1 (.l 2 (.l 3 (.q 4 .nil))))) (by kernel_rfl) (by kernel_rfl) ?_
            clear hp hq; (try clear w1); intro w1 hp hq
            repeat' (first
              | (((with_reducible apply sd_q); exact zo rfl); (first
                  | ((with_reducible apply sd_load_agg hp); exact rfl; exact zt rfl; infer_instance; infer_instance; (first | exact zl rfl | exact LB_le (by omega)); (first | (with_reducible exact LB_set (by omega)) | (simp only [n0, Nat.reduceAdd, n1, n2, n3, n4, n5, n6, n7, n8, n9]; try rfl)); simp only [zp, zq, z0, z1])
                  | ((with_reducible apply sd_load_far hp); exact rfl; exact zt rfl; assumption; infer_instance; assumption; (first | exact zl rfl | omega); simp only [zp, zq, z0, z1])
                  | ((with_reducible apply sd_assign hp); exact zb rfl; simp only [zp, zq, z0, z1])
                  | ((with_reducible apply sd_pure hp); exact rfl; (focus (intro _; go_simp; (try go_ints); try with_reducible rfl)); simp only [zp, zq, z0, z1])))
              | (((with_reducible apply sd_l); exact zo rfl); (first
                  | ((with_reducible apply sd_store_far hq); exact rfl; exact zt rfl; (first | exact za rfl | exact zu rfl | exact zi rfl | exact zb rfl | exact zr rfl | exact zs rfl | exact zf rfl | exact zg rfl | exact zn rfl | exact zv rfl | exact zw rfl); exact rfl; (first | exact AggTy.size | exact OneTy.size); exact rfl; infer_instance; (first | (with_reducible exact LB_set (by omega)) | (simp only [n0, Nat.reduceAdd, n1, n2, n3, n4, n5, n6, n7, n8, n9]; try rfl)); (first | exact zl rfl | exact LB_le (by omega)); exact rfl; infer_instance; (repeat (first | exact List.Sublist.refl _ | exact List.nil_sublist _ | apply List.Sublist.cons_cons | apply List.Sublist.cons)); clear hp hq; (try clear w1); intro w1 hp hq)
                  | ((with_reducible apply sd_store hq); exact rfl; exact zt rfl; (first | exact za rfl | exact zu rfl | exact zi rfl | exact zb rfl | exact zr rfl | exact zs rfl | exact zf rfl | exact zg rfl | exact zn rfl | exact zv rfl | exact zw rfl); exact rfl; (first | exact AggTy.size | exact OneTy.size); exact rfl; infer_instance; (first | (with_reducible exact LB_set (by omega)) | (simp only [n0, Nat.reduceAdd, n1, n2, n3, n4, n5, n6, n7, n8, n9]; try rfl)); (first | exact zl rfl | exact LB_le (by omega)); exact rfl; infer_instance; exact rfl; clear hp hq; (try clear w1); intro w1 hq; have hp := True.intro)))
              | ((with_reducible apply sd_nil); clear hp; have hp := hq; clear hq))
            go_wp2
            exact bodyPost_ret (results_cct rfl rfl (run_load_agg hp (Nat.le_of_ble_eq_true rfl)) rfl (run_load_agg hp (Nat.le_of_ble_eq_true rfl)) rfl) rfl ⟨rfl, hp.keep⟩
          | false =>
            obtain rfl : R2 = R1 := H4.out
            clear H4
            go_wp2_with (first
          | ((with_reducible refine sx_guard ?_); (conv => whnf); refine Bx.mk ?_; (try simp only [zp, zq, z0, z1]))
          | ((with_reducible apply sx_box hp); exact za rfl; exact rfl; clear hp; (try clear w1); intro g w1 hp; simp only [zp, zq, z0, z1])
          | ((with_reducible apply sx_alloc hp); infer_instance; exact rfl; clear hp; (try clear w1); intro g w1 hp; simp only [zp, zq, z0, z1])
          | ((with_reducible apply sx_load_agg hp); exact zt rfl; infer_instance; infer_instance; (first | exact zl rfl | exact LB_le (by omega)); (first | (with_reducible exact LB_set (by omega)) | (simp only [n0, Nat.reduceAdd, n1, n2, n3, n4, n5, n6, n7, n8, n9]; try rfl)); simp only [zp, zq, z0, z1])
          | ((with_reducible apply sx_store hp); exact zt rfl; (first | exact za rfl | exact zi rfl); exact rfl; (first | exact AggTy.size | exact OneTy.size); exact rfl; infer_instance; (first | (with_reducible exact LB_set (by omega)) | (simp only [n0, Nat.reduceAdd, n1, n2, n3, n4, n5, n6, n7, n8, n9]; try rfl)); (first | exact zl rfl | exact LB_le (by omega)); exact rfl; infer_instance; clear hp; (try clear w1); intro w1 hp)
          | ((with_reducible apply sx_indexAddr); exact zx rfl; exact zk rfl; infer_instance; (first | exact AggTy.size | exact OneTy.size); omega; omega; ((try simp only [m0, Int.reduceToNat, m1, m2, Nat.reduceMul, Nat.reduceAdd, m3, m4, m5, n0]); exact rfl); simp only [zp, zq, z0, z1])
          | ((with_reducible apply sx_load_far hp); exact zt rfl; assumption; infer_instance; assumption; (first | exact zl rfl | omega); simp only [zp, zq, z0, z1])
          | ((with_reducible refine sx_call hp (ZB.out _) ?_); clear hp; (try clear w1); intro w1 hp)
          | ((with_reducible refine sx_call hp (OQ.out _ _ (BSl.of hp.blk)) ?_); clear hp; (try clear w1); intro w1 hp)
          | ((with_reducible refine sx_call hp (OR.out _ _ (BSl.of hp.blk)) ?_); clear hp; (try clear w1); intro w1 hp))
            have hq := hp
            clear hp
            have hp := hq.sub (.cons_cons _ (.cons_cons _ (.cons_cons _ (.cons_cons _ (.cons _ (.cons _ (List.Sublist.refl _)))))))
            refine wp_drawn_hp hp hq [3] (.q 0 (.q 1 (.l 2 (.l 3 (.q 4 .nil))))) (by kernel_rfl) (by kernel_rfl) ?_
            clear hp hq; (try clear w1); intro w1 hp hq
            repeat' (first
              | (((with_reducible apply sd_q); exact zo rfl); (first
                  | ((with_reducible apply sd_load_agg hp); exact rfl; exact zt rfl; infer_instance; infer_instance; (first | exact zl rfl | exact LB_le (by omega)); (first | (with_reducible exact LB_set (by omega)) | (simp only [n0, Nat.reduceAdd, n1, n2, n3, n4, n5, n6, n7, n8, n9]; try rfl)); simp only [zp, zq, z0, z1])
                  | ((with_reducible apply sd_load_far hp); exact rfl; exact zt rfl; assumption; infer_instance; assumption; (first | exact zl rfl | omega); simp only [zp, zq, z0, z1])
                  | ((with_reducible apply sd_assign hp); exact zb rfl; simp only [zp, zq, z0, z1])
                  | ((with_reducible apply sd_pure hp); exact rfl; (focus (intro _; go_simp; (try go_ints); try with_reducible rfl)); simp only [zp, zq, z0, z1])))
              | (((with_reducible apply sd_l); exact zo rfl); (first
                  | ((with_reducible apply sd_store_far hq); exact rfl; exact zt rfl; (first | exact za rfl | exact zu rfl | exact zi rfl | exact zb rfl | exact zr rfl | exact zs rfl | exact zf rfl | exact zg rfl | exact zn rfl | exact zv rfl | exact zw rfl); exact rfl; (first | exact AggTy.size | exact OneTy.size); exact rfl; infer_instance; (first | (with_reducible exact LB_set (by omega)) | (simp only [n0, Nat.reduceAdd, n1, n2, n3, n4, n5, n6, n7, n8, n9]; try rfl)); (first | exact zl rfl | exact LB_le (by omega)); exact rfl; infer_instance; (repeat (first | exact List.Sublist.refl _ | exact List.nil_sublist _ | apply List.Sublist.cons_cons | apply List.Sublist.cons)); clear hp hq; (try clear w1); intro w1 hp hq)
                  | ((with_reducible apply sd_store hq); exact rfl; exact zt rfl; (first | exact za rfl | exact zu rfl | exact zi rfl | exact zb rfl | exact zr rfl | exact zs rfl | exact zf rfl | exact zg rfl | exact zn rfl | exact zv rfl | exact zw rfl); exact rfl; (first | exact AggTy.size | exact OneTy.size); exact rfl; infer_instance; (first | (with_reducible exact LB_set (by omega)) | (simp only [n0, Nat.reduceAdd, n1, n2, n3, n4, n5, n6, n7, n8, n9]; try rfl)); (first | exact zl rfl | exact LB_le (by omega)); exact rfl; infer_instance; exact rfl; clear hp hq; (try clear w1); intro w1 hq; have hp := True.intro)))
              | ((with_reducible apply sd_nil); clear hp; have hp := hq; clear hq))
            go_wp2
            exact bodyPost_ret (results_cct rfl rfl (run_load_agg hp (Nat.le_of_ble_eq_true rfl)) rfl (run_load_agg hp (Nat.le_of_ble_eq_true rfl)) rfl) rfl ⟨rfl, hp.keep⟩
        · obtain rfl := HV2.out hf
          have OQ : Hid (∀ v w, BSl w v Q2 520 → Calls Tryz.prog 63 #[v] w (Ret (.tuple #[W 0, .bool false]) w)) := Lib.hid fun v w h => by
            have := rof520 Q2 HQA.out v w h
            rw [fz, if_neg hf, decide_eq_false hf] at this
            exact this
          clear hf HV1 HV2 HQA
          cases sb with
          | true =>
            obtain rfl : R2 = -R1 := H4.out
            clear H4
            go_wp2_with (first
          | ((with_reducible refine sx_guard ?_); (conv => whnf); refine Bx.mk ?_; (try simp only [zp, zq, z0, z1]))
          | ((with_reducible apply sx_box hp); exact za rfl; exact rfl; clear hp; (try clear w1); intro g w1 hp; simp only [zp, zq, z0, z1])
          | ((with_reducible apply sx_alloc hp); infer_instance; exact rfl; clear hp; (try clear w1); intro g w1 hp; simp only [zp, zq, z0, z1])
          | ((with_reducible apply sx_load_agg hp); exact zt rfl; infer_instance; infer_instance; (first | exact zl rfl | exact LB_le (by omega)); (first | (with_reducible exact LB_set (by omega)) | (simp only [n0, Nat.reduceAdd, n1, n2, n3, n4, n5, n6, n7, n8, n9]; try rfl)); simp only [zp, zq, z0, z1])
          | ((with_reducible apply sx_store hp); exact zt rfl; (first | exact za rfl | exact zi rfl); exact rfl; (first | exact AggTy.size | exact OneTy.size); exact rfl; infer_instance; (first | (with_reducible exact LB_set (by omega)) | (simp only [n0, Nat.reduceAdd, n1, n2, n3, n4, n5, n6, n7, n8, n9]; try rfl)); (first | exact zl rfl | exact LB_le (by omega)); exact rfl; infer_instance; clear hp; (try clear w1); intro w1 hp)
          | ((with_reducible apply sx_indexAddr); exact zx rfl; exact zk rfl; infer_instance; (first | exact AggTy.size | exact OneTy.size); omega; omega; ((try simp only [m0, Int.reduceToNat, m1, m2, Nat.reduceMul, Nat.reduceAdd, m3, m4, m5, n0]); exact rfl); simp only [zp, zq, z0, z1])
          | ((with_reducible apply sx_load_far hp); exact zt rfl; assumption; infer_instance; assumption; (first | exact zl rfl | omega); simp only [zp, zq, z0, z1])
          | ((with_reducible refine sx_call hp (ZB.out _) ?_); clear hp; (try clear w1); intro w1 hp)
          | ((with_reducible refine sx_callN hp (rminus_any R1 520 (by omega) _ _ (BSl.of hp.blk)) ?_); clear hp; (try clear w1); intro g w1 hp)
          | ((with_reducible refine sx_call hp (OQ.out _ _ (BSl.of hp.blk)) ?_); clear hp; (try clear w1); intro w1 hp)
          | ((with_reducible refine sx_call hp (OR.out _ _ (BSl.of hp.blk)) ?_); clear hp; (try clear w1); intro w1 hp))
            exact bodyPost_ret (results_cct rfl rfl (run_load_agg hp (Nat.le_of_ble_eq_true rfl)) rfl (run_load_agg hp (Nat.le_of_ble_eq_true rfl)) rfl) rfl ⟨rfl, hp.keep⟩
          | false =>
            obtain rfl : R2 = R1 := H4.out
            clear H4
            go_wp2_with (first
          | ((with_reducible refine sx_guard ?_); (conv => whnf); refine Bx.mk ?_; (try simp only [zp, zq, z0, z1]))
          | ((with_reducible apply sx_box hp); exact za rfl; exact rfl; clear hp; (try clear w1); intro g w1 hp; simp only [zp, zq, z0, z1])
          | ((with_reducible apply sx_alloc hp); infer_instance; exact rfl; clear hp; (try clear w1); intro g w1 hp; simp only [zp, zq, z0, z1])
          | ((with_reducible apply sx_load_agg hp); exact zt rfl; infer_instance; infer_instance; (first | exact zl rfl | exact LB_le (by omega)); (first | (with_reducible exact LB_set (by omega)) | (simp only [n0, Nat.reduceAdd, n1, n2, n3, n4, n5, n6, n7, n8, n9]; try rfl)); simp only [zp, zq, z0, z1])
          | ((with_reducible apply sx_store hp); exact zt rfl; (first | exact za rfl | exact zi rfl); exact rfl; (first | exact AggTy.size | exact OneTy.size); exact rfl; infer_instance; (first | (with_reducible exact LB_set (by omega)) | (simp only [n0, Nat.reduceAdd, n1, n2, n3, n4, n5, n6, n7, n8, n9]; try rfl)); (first | exact zl rfl | exact LB_le (by omega)); exact rfl; infer_instance; clear hp; (try clear w1); intro w1 hp)
          | ((with_reducible apply sx_indexAddr); exact zx rfl; exact zk rfl; infer_instance; (first | exact AggTy.size | exact OneTy.size); omega; omega; ((try simp only [m0, Int.reduceToNat, m1, m2, Nat.reduceMul, Nat.reduceAdd, m3, m4, m5, n0]); exact rfl); simp only [zp, zq, z0, z1])
          | ((with_reducible apply sx_load_far hp); exact zt rfl; assumption; infer_instance; assumption; (first | exact zl rfl | omega); simp only [zp, zq, z0, z1])
          | ((with_reducible refine sx_call hp (ZB.out _) ?_); clear hp; (try clear w1); intro w1 hp)
          | ((with_reducible refine sx_call hp (OQ.out _ _ (BSl.of hp.blk)) ?_); clear hp; (try clear w1); intro w1 hp)
          | ((with_reducible refine sx_call hp (OR.out _ _ (BSl.of hp.blk)) ?_); clear hp; (try clear w1); intro w1 hp))
            exact bodyPost_ret (results_cct rfl rfl (run_load_agg hp (Nat.le_of_ble_eq_true rfl)) rfl (run_load_agg hp (Nat.le_of_ble_eq_true rfl)) rfl) rfl ⟨rfl, hp.keep⟩
end Go.Proofs.YtbdkbmhejoakiaaGreatDoor
