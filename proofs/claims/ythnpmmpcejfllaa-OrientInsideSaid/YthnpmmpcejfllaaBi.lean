/-
  Packages ninepinref06, ninepinref07: may, Check, Fine, Less, det, line, Side, Volume (contracts).
-/
import Derived.Test.YthnpmmpcejfllaaBo
import Derived.Test.YthnpmmpcejfllaaHh
set_option linter.unusedSimpArgs false
set_option linter.unusedVariables false
set_option maxRecDepth 100000
namespace Go.Proofs.Ythnpmmpcejfllaa
open Go Go.RowKit

set_option maxHeartbeats 1000000 in
theorem r7less_any (a b : P3) (h : (a.sub b).i64) (w : World) : Calls Try.prog 53 #[PV a, PV b] w (Ret (PV (a.sub b)) w) := by
  obtain ⟨ax, ay, az⟩ := a
  obtain ⟨bx, by', bz⟩ := b
  obtain ⟨h1, h2, h3⟩ := h
  unfold P3.sub I64 at *
  dsimp only at h1 h2 h3 ⊢
  go_enter Try.func53, Try.ntmps53
  have hp := Hp.start [] w
  go_wp2_with (first
          | ((with_reducible apply sx_box hp); exact za rfl; exact rfl; clear hp; (try clear w1); intro g w1 hp; simp only [zp, zq, z0, z1])
          | ((with_reducible apply sx_alloc hp); infer_instance; exact rfl; clear hp; (try clear w1); intro g w1 hp; simp only [zp, zq, z0, z1])
          | ((with_reducible apply sx_load_one hp); exact zt rfl; infer_instance; infer_instance; (first | exact zio rfl | exact LB_get (by omega)); simp only [zp, zq, z0, z1])
          | ((with_reducible apply sx_store hp); exact zt rfl; exact za rfl; exact rfl; (first | exact AggTy.size | exact OneTy.size); exact rfl; infer_instance; (first | (with_reducible exact LB_set (by omega)) | (simp only [n0, Nat.reduceAdd, n1, n2, n3, n4, n5, n6, n7, n8, n9]; try rfl)); (first | exact zl rfl | exact LB_le (by omega)); exact rfl; infer_instance; clear hp; (try clear w1); intro w1 hp))
  exact bodyPost_ret (results_one rfl ⟨_, rfl, run_load_agg hp (Nat.le_of_ble_eq_true rfl)⟩) rfl ⟨rfl, hp.keep⟩
set_option maxHeartbeats 2000000 in
theorem rfine_far (ps : List P3) (r : Bool) (Hr : Hid (r = fineb ps)) (hlen : ps.length ≤ maxLen) (w : World) (g off cap : Nat) (bc : List Value) (t : TypeId) {z : Nat × Nat} (hb : w.heap[g]? = some (.cells bc.toArray t z)) (hv : (bc.drop off).take (ps.length * 3) = pcs ps) :
    Calls Try.prog 26 #[.slice (some ⟨g, off, none⟩) ps.length cap] w (Ret (.bool r) w) := by
  have Hv := Lib.hid hv
  clear hv
  unfold maxLen at hlen
  go_enter Try.func26, Try.ntmps26
  have hp := Hp.start [] w
  go_wp2_with (first
          | ((with_reducible apply sx_load_agg hp); exact zt rfl; infer_instance; infer_instance; (first | exact zl rfl | exact LB_le (by omega)); (first | (with_reducible exact LB_set (by omega)) | (simp only [n0, Nat.reduceAdd, n1, n2, n3, n4, n5, n6, n7, n8, n9]; try rfl)); simp only [zp, zq, z0, z1])
          | ((with_reducible apply sx_indexAddr); exact zx rfl; exact zk rfl; infer_instance; (first | exact AggTy.size | exact OneTy.size); omega; omega; ((try simp only [m0, Int.reduceToNat, m1, m2, Nat.reduceMul, Nat.reduceAdd, m3, m4, m5, n0]); exact rfl); simp only [zp, zq, z0, z1])
          | ((with_reducible apply sx_load_far hp); exact zt rfl; assumption; infer_instance; assumption; (first | exact zl rfl | omega); simp only [zp, zq, z0, z1]))
  go_loopw [3] (fun i wr => ∃ k : Nat, k ≤ ps.length ∧ i = .int .i64 k ∧ fineb (ps.take k) = true ∧ Hp [] w [] wr) (fun i _ => ps.length - (intOf i).toNat)
  case atStart => exact ⟨0, by omega, rfl, rfl, hp⟩
  case round =>
    clear hp
    obtain ⟨k, hk, rfl, hf, hp⟩ := hrel
    have Hf := Lib.hid hf
    clear hf
    by_cases hk1 : k < ps.length
    · obtain ⟨p, hpk⟩ : ∃ p, ps[k]? = some p := ⟨_, List.getElem?_eq_getElem hk1⟩
      have hat := pcs_at Hv.out hpk
      have hroom : off + k * 3 + 3 ≤ bc.length := by
        rcases pcs_room Hv.out with h | h
        · subst h; simp at hk1
        · omega
      have Hpk := Lib.hid hpk
      clear hpk
      have hch := rcheck_any p
      by_cases hm : p.may
      · simp only [if_pos hm] at hch
        have Hch := Lib.hid hch
        clear hch
        go_wp2_with (first
          | ((with_reducible apply sx_load_agg hp); exact zt rfl; infer_instance; infer_instance; (first | exact zl rfl | exact LB_le (by omega)); (first | (with_reducible exact LB_set (by omega)) | (simp only [n0, Nat.reduceAdd, n1, n2, n3, n4, n5, n6, n7, n8, n9]; try rfl)); simp only [zp, zq, z0, z1])
          | ((with_reducible apply sx_indexAddr); exact zx rfl; exact zk rfl; infer_instance; (first | exact AggTy.size | exact OneTy.size); omega; omega; ((try simp only [m0, Int.reduceToNat, m1, m2, Nat.reduceMul, Nat.reduceAdd, m3, m4, m5, n0]); exact rfl); simp only [zp, zq, z0, z1])
          | ((with_reducible apply sx_load_far hp); exact zt rfl; assumption; infer_instance; assumption; (first | exact zl rfl | omega); simp only [zp, zq, z0, z1])
          | ((with_reducible refine sx_call hp (Hch.out _) ?_); clear hp; (try clear w1); intro w1 hp))
        go_roundw
        case rel =>
          refine ⟨k + 1, by omega, by go_num, ?_, hp.sub (List.nil_sublist _)⟩
          rw [fineb, List.take_add_one, Hpk.out, List.all_append]
          simp [hm]
          simpa [fineb] using Hf.out
        case measure => simp [intOf]; omega
      · simp only [if_neg hm] at hch
        have Hch := Lib.hid hch
        clear hch
        have hr : r = false := by
          rw [Hr.out, fineb, List.all_eq_false]
          exact ⟨p, List.mem_of_getElem? Hpk.out, by simp [hm]⟩
        subst hr
        go_wp2_with (first
          | ((with_reducible apply sx_load_agg hp); exact zt rfl; infer_instance; infer_instance; (first | exact zl rfl | exact LB_le (by omega)); (first | (with_reducible exact LB_set (by omega)) | (simp only [n0, Nat.reduceAdd, n1, n2, n3, n4, n5, n6, n7, n8, n9]; try rfl)); simp only [zp, zq, z0, z1])
          | ((with_reducible apply sx_indexAddr); exact zx rfl; exact zk rfl; infer_instance; (first | exact AggTy.size | exact OneTy.size); omega; omega; ((try simp only [m0, Int.reduceToNat, m1, m2, Nat.reduceMul, Nat.reduceAdd, m3, m4, m5, n0]); exact rfl); simp only [zp, zq, z0, z1])
          | ((with_reducible apply sx_load_far hp); exact zt rfl; assumption; infer_instance; assumption; (first | exact zl rfl | omega); simp only [zp, zq, z0, z1])
          | ((with_reducible refine sx_call hp (Hch.out _) ?_); clear hp; (try clear w1); intro w1 hp))
        exact bodyPost_ret (results_one rfl rfl) rfl ⟨rfl, hp.keep⟩
    · obtain rfl : k = ps.length := by omega
      have hr : r = true := by
        rw [Hr.out]
        have := Hf.out
        rwa [List.take_length] at this
      subst hr
      go_wp2_with (first
          | ((with_reducible apply sx_load_agg hp); exact zt rfl; infer_instance; infer_instance; (first | exact zl rfl | exact LB_le (by omega)); (first | (with_reducible exact LB_set (by omega)) | (simp only [n0, Nat.reduceAdd, n1, n2, n3, n4, n5, n6, n7, n8, n9]; try rfl)); simp only [zp, zq, z0, z1])
          | ((with_reducible apply sx_indexAddr); exact zx rfl; exact zk rfl; infer_instance; (first | exact AggTy.size | exact OneTy.size); omega; omega; ((try simp only [m0, Int.reduceToNat, m1, m2, Nat.reduceMul, Nat.reduceAdd, m3, m4, m5, n0]); exact rfl); simp only [zp, zq, z0, z1])
          | ((with_reducible apply sx_load_far hp); exact zt rfl; assumption; infer_instance; assumption; (first | exact zl rfl | omega); simp only [zp, zq, z0, z1]))
      exact bodyPost_ret (results_one rfl rfl) rfl ⟨rfl, hp.keep⟩
theorem rfine_nil (w : World) : Calls Try.prog 26 #[.slice none 0 0] w (Ret (.bool true) w) := by
  go_enter Try.func26, Try.ntmps26
  have hp := Hp.start [] w
  go_wp2_with (first
          | ((with_reducible apply sx_load_agg hp); exact zt rfl; infer_instance; infer_instance; (first | exact zl rfl | exact LB_le (by omega)); (first | (with_reducible exact LB_set (by omega)) | (simp only [n0, Nat.reduceAdd, n1, n2, n3, n4, n5, n6, n7, n8, n9]; try rfl)); simp only [zp, zq, z0, z1])
          | ((with_reducible apply sx_indexAddr); exact zx rfl; exact zk rfl; infer_instance; (first | exact AggTy.size | exact OneTy.size); omega; omega; ((try simp only [m0, Int.reduceToNat, m1, m2, Nat.reduceMul, Nat.reduceAdd, m3, m4, m5, n0]); exact rfl); simp only [zp, zq, z0, z1])
          | ((with_reducible apply sx_load_far hp); exact zt rfl; assumption; infer_instance; assumption; (first | exact zl rfl | omega); simp only [zp, zq, z0, z1]))
  apply wp_loop_once
  go_wp2_with (first
          | ((with_reducible apply sx_load_agg hp); exact zt rfl; infer_instance; infer_instance; (first | exact zl rfl | exact LB_le (by omega)); (first | (with_reducible exact LB_set (by omega)) | (simp only [n0, Nat.reduceAdd, n1, n2, n3, n4, n5, n6, n7, n8, n9]; try rfl)); simp only [zp, zq, z0, z1])
          | ((with_reducible apply sx_indexAddr); exact zx rfl; exact zk rfl; infer_instance; (first | exact AggTy.size | exact OneTy.size); omega; omega; ((try simp only [m0, Int.reduceToNat, m1, m2, Nat.reduceMul, Nat.reduceAdd, m3, m4, m5, n0]); exact rfl); simp only [zp, zq, z0, z1])
          | ((with_reducible apply sx_load_far hp); exact zt rfl; assumption; infer_instance; assumption; (first | exact zl rfl | omega); simp only [zp, zq, z0, z1]))
  exact bodyPost_ret (results_one rfl rfl) rfl ⟨rfl, hp.keep⟩
theorem rfine_any {ps : List P3} {v : Value} (hlen : ps.length ≤ maxLen) (w : World) (h : PSl w v ps) : Calls Try.prog 26 #[v] w (Ret (.bool (fineb ps)) w) := by
  rcases h with ⟨rfl, rfl⟩ | ⟨g, off, cap, bc, t, z, rfl, hb, hv⟩
  · exact rfine_nil w
  · exact rfine_far ps _ (Lib.hid rfl) hlen w g off cap bc t hb hv

set_option maxHeartbeats 4000000 in
theorem r7det_any (a b c p : P3) (ha : a.may) (hb : b.may) (hc : c.may) (hp' : p.may) (w : World) : Calls Try.prog 42 #[PV a, PV b, PV c, PV p] w (Ret (W (P3.det (b.sub a) (c.sub a) (p.sub a))) w) := by
  have L1 := Lib.hid (r7less_any b a (may_sub hb ha))
  have L2 := Lib.hid (r7less_any c a (may_sub hc ha))
  have L3 := Lib.hid (r7less_any p a (may_sub hp' ha))
  have D := Lib.hid (rdet_any _ _ _ (may_sub hb ha) (may_sub hc ha) (may_sub hp' ha))
  clear ha hb hc hp'
  go_enter Try.func42, Try.ntmps42
  have hp := Hp.start [] w
  go_upto_region 1 with (first
          | ((with_reducible apply sx_box hp); (first | exact za rfl | exact zu rfl | exact zi rfl | exact zb rfl | exact zr rfl | exact zs rfl | exact zf rfl | exact zg rfl | exact zn rfl | exact zv rfl | exact zw rfl); exact rfl; clear hp; (try clear w1); intro g w1 hp; simp only [zp, zq, z0, z1])
          | ((with_reducible apply sx_alloc hp); infer_instance; exact rfl; clear hp; (try clear w1); intro g w1 hp; simp only [zp, zq, z0, z1]))
  have hq := hp
  refine wp_drawn_hp hp hq [10] (.q 0 (.q 1 (.q 3 (.q 4 (.q 6 (.q 7 (.l 2 (.l 5 (.l 8 (.l 9 (.l 10 .nil))))))))))) (by kernel_rfl) (by kernel_rfl) ?_
  clear hp hq; (try clear w1); intro w1 hp hq
  repeat' (first
    | (((with_reducible apply sd_q); exact zo rfl); (first
        | ((with_reducible apply sd_load_agg hp); exact rfl; exact zt rfl; infer_instance; infer_instance; (first | exact zl rfl | exact LB_le (by omega)); (first | (with_reducible exact LB_set (by omega)) | (simp only [n0, Nat.reduceAdd, n1, n2, n3, n4, n5, n6, n7, n8, n9]; try rfl)); simp only [zp, zq, z0, z1])
        | ((with_reducible apply sd_pure hp); exact rfl; (focus (intro _; go_simp; (try go_ints); try with_reducible rfl)); simp only [zp, zq, z0, z1])))
    | (((with_reducible apply sd_l); exact zo rfl); (first
        | ((with_reducible apply sd_call hp); exact rfl; (focus (intro _; go_simp; try first | with_reducible rfl | exact ⟨rfl, rfl⟩)); (with_reducible first | exact fun w => L1.out w | exact fun w => L2.out w | exact fun w => L3.out w | exact fun w => D.out w); exact hq; clear hp hq; (try clear w1); intro w1 hp hq; simp only [zp, zq, z0, z1])
        | ((with_reducible apply sd_store_far hq); exact rfl; exact zt rfl; (first | exact za rfl | exact zu rfl | exact zi rfl | exact zb rfl | exact zr rfl | exact zs rfl | exact zf rfl | exact zg rfl | exact zn rfl | exact zv rfl | exact zw rfl); exact rfl; (first | exact AggTy.size | exact OneTy.size); exact rfl; infer_instance; (first | (with_reducible exact LB_set (by omega)) | (simp only [n0, Nat.reduceAdd, n1, n2, n3, n4, n5, n6, n7, n8, n9]; try rfl)); (first | exact zl rfl | exact LB_le (by omega)); exact rfl; infer_instance; (repeat (first | exact List.Sublist.refl _ | apply List.Sublist.cons)); clear hp hq; (try clear w1); intro w1 hp hq)
        | ((with_reducible apply sd_store hq); exact rfl; exact zt rfl; (first | exact za rfl | exact zu rfl | exact zi rfl | exact zb rfl | exact zr rfl | exact zs rfl | exact zf rfl | exact zg rfl | exact zn rfl | exact zv rfl | exact zw rfl); exact rfl; (first | exact AggTy.size | exact OneTy.size); exact rfl; infer_instance; (first | (with_reducible exact LB_set (by omega)) | (simp only [n0, Nat.reduceAdd, n1, n2, n3, n4, n5, n6, n7, n8, n9]; try rfl)); (first | exact zl rfl | exact LB_le (by omega)); exact rfl; infer_instance; exact rfl; clear hp hq; (try clear w1); intro w1 hq; have hp := True.intro)))
    | ((with_reducible apply sd_nil); clear hp; have hp := hq; clear hq))
  go_wp2
  exact bodyPost_ret (results_one rfl ⟨_, rfl, run_load_agg hp (Nat.le_of_ble_eq_true rfl)⟩) rfl ⟨rfl, hp.keep⟩
set_option maxHeartbeats 4000000 in
theorem r7line_any (a b p : P3) (ha : a.may) (hb : b.may) (hp' : p.may) (w : World) : Calls Try.prog 45 #[PV a, PV b, PV p] w (Ret (.bool (decide ((b.sub a).cross (p.sub a) = ⟨0, 0, 0⟩))) w) := by
  have hu := may_sub hb ha
  have hv := may_sub hp' ha
  have L1 := Lib.hid (r7less_any b a hu)
  have L2 := Lib.hid (r7less_any p a hv)
  generalize b.sub a = u at *
  generalize p.sub a = v at *
  have C := Lib.hid (rcross_any u v hu hv)
  have hcf := cross_fit hu hv
  clear hu hv ha hb hp'
  generalize u.cross v = c at *
  have hc := span_eq hcf.1 hcf.2.1 hcf.2.2
  rw [eqb_zero, eqb_zero, eqb_zero] at hc
  clear hcf
  generalize decide (c = ⟨0, 0, 0⟩) = r at *
  go_enter Try.func45, Try.ntmps45
  have hp := Hp.start [] w
  go_upto_region 1 with (first
          | ((with_reducible apply sx_box hp); (first | exact za rfl | exact zu rfl | exact zi rfl | exact zb rfl | exact zr rfl | exact zs rfl | exact zf rfl | exact zg rfl | exact zn rfl | exact zv rfl | exact zw rfl); exact rfl; clear hp; (try clear w1); intro g w1 hp; simp only [zp, zq, z0, z1])
          | ((with_reducible apply sx_alloc hp); infer_instance; exact rfl; clear hp; (try clear w1); intro g w1 hp; simp only [zp, zq, z0, z1]))
  have hq := hp
  refine wp_drawn_hp hp hq [] (.q 0 (.q 1 (.q 3 (.q 4 (.q 7 (.l 2 (.l 5 (.l 6 (.q 8 (.q 9 .nil)))))))))) (by kernel_rfl) (by kernel_rfl) ?_
  clear hp hq; (try clear w1); intro w1 hp hq
  repeat' (first
    | (((with_reducible apply sd_q); exact zo rfl); (first
        | ((with_reducible apply sd_load_agg hp); exact rfl; exact zt rfl; infer_instance; infer_instance; (first | exact zl rfl | exact LB_le (by omega)); (first | (with_reducible exact LB_set (by omega)) | (simp only [n0, Nat.reduceAdd, n1, n2, n3, n4, n5, n6, n7, n8, n9]; try rfl)); simp only [zp, zq, z0, z1])
        | ((with_reducible apply sd_assign hp); exact zb rfl; simp only [zp, zq, z0, z1])
        | ((with_reducible apply sd_pure hp); exact rfl; (focus (intro _; go_simp; (try go_ints); try with_reducible rfl)); simp only [zp, zq, z0, z1])))
    | (((with_reducible apply sd_l); exact zo rfl); ((with_reducible apply sd_call hp); exact rfl; (focus (intro _; go_simp; try first | with_reducible rfl | exact ⟨rfl, rfl⟩)); (with_reducible first | exact fun w => L1.out w | exact fun w => L2.out w | exact fun w => C.out w); exact hq; clear hp hq; (try clear w1); intro w1 hp hq; simp only [zp, zq, z0, z1]))
    | ((with_reducible apply sd_nil); clear hp; have hp := hq; clear hq))
  go_wp2
  exact bodyPost_ret (results_one rfl rfl) rfl ⟨by rw [← hc]; rfl, hp.keep⟩
set_option maxHeartbeats 2000000 in
theorem rside_any (a b c p : P3) (w : World) : Calls Try.prog 21 #[PV a, PV b, PV c, PV p] w (Ret (sideV a b c p) w) := by
  have hfine : ∀ w g, w.heap[g]? = some (.cells [.int .i64 a.x, .int .i64 a.y, .int .i64 a.z, .int .i64 b.x, .int .i64 b.y, .int .i64 b.z, .int .i64 c.x, .int .i64 c.y, .int .i64 c.z, .int .i64 p.x, .int .i64 p.y, .int .i64 p.z].toArray 33 (0, 0)) →
      Calls Try.prog 26 #[.slice (some ⟨g, 0, none⟩) 4 4] w (Ret (.bool (fineb [a, b, c, p])) w) := fun w g hb => rfine_far [a, b, c, p] _ (Lib.hid rfl) (by unfold maxLen; simp) w g 0 4 _ _ hb rfl
  unfold sideV
  by_cases hf : fineb [a, b, c, p] = true
  · rw [if_pos hf]
    rw [hf] at hfine
    have Hfine := Lib.hid hfine
    clear hfine
    have ha := fineb_mem hf (p := a) (by simp)
    have hb := fineb_mem hf (p := b) (by simp)
    have hc := fineb_mem hf (p := c) (by simp)
    have hp' := fineb_mem hf (p := p) (by simp)
    have D := Lib.hid (r7det_any a b c p ha hb hc hp')
    have Sg := Lib.hid (rsign_any _ (det_fit (may_sub hb ha) (may_sub hc ha) (may_sub hp' ha)))
    clear ha hb hc hp' hf
    unfold side
    go_enter Try.func21, Try.ntmps21
    have hp := Hp.start [] w
    go_wp2_with (first
          | ((with_reducible apply sx_box hp); exact za rfl; exact rfl; clear hp; (try clear w1); intro g w1 hp; simp only [zp, zq, z0, z1])
          | ((with_reducible apply sx_load_agg hp); exact zt rfl; infer_instance; infer_instance; (first | exact zl rfl | exact LB_le (by omega)); (first | (with_reducible exact LB_set (by omega)) | (simp only [n0, Nat.reduceAdd, n1, n2, n3, n4, n5, n6, n7, n8, n9]; try rfl)); simp only [zp, zq, z0, z1])
          | ((with_reducible apply sx_buildSlice hp); infer_instance; (first | exact AggTy.size | exact OneTy.size); infer_instance; exact zl rfl; decide; (first | exact (rfl : _ = numbered 0 [_]) | exact (rfl : _ = numbered 0 [_, _]) | exact (rfl : _ = numbered 0 [_, _, _]) | exact (rfl : _ = numbered 0 [_, _, _, _])); exact rfl; (first | exact (rfl : _ = List.map (fun x : List Value => x.toArray) [_]) | exact (rfl : _ = List.map (fun x : List Value => x.toArray) [_, _]) | exact (rfl : _ = List.map (fun x : List Value => x.toArray) [_, _, _]) | exact (rfl : _ = List.map (fun x : List Value => x.toArray) [_, _, _, _])); (intro l hl <;> simp only [List.mem_cons, List.not_mem_nil, or_false] at hl <;> rcases hl with rfl | rfl | rfl | rfl <;> rfl); exact rfl; clear hp; (try clear w1); intro g w1 hp; simp only [zp, zq, z0, z1])
          | ((with_reducible first | refine sx_call hp (D.out _) ?_ | refine sx_call hp (Sg.out _) ?_); clear hp; (try clear w1); intro w1 hp)
          | ((with_reducible refine sx_call hp (Hfine.out _ _ hp.blk) ?_); clear hp; (try clear w1); intro w1 hp))
    exact bodyPost_ret (results_two rfl rfl rfl) rfl ⟨rfl, hp.keep⟩
  · rw [if_neg hf]
    rw [Bool.eq_false_iff.2 hf] at hfine
    have Hfine := Lib.hid hfine
    clear hfine hf
    go_enter Try.func21, Try.ntmps21
    have hp := Hp.start [] w
    go_wp2_with (first
          | ((with_reducible apply sx_box hp); exact za rfl; exact rfl; clear hp; (try clear w1); intro g w1 hp; simp only [zp, zq, z0, z1])
          | ((with_reducible apply sx_load_agg hp); exact zt rfl; infer_instance; infer_instance; (first | exact zl rfl | exact LB_le (by omega)); (first | (with_reducible exact LB_set (by omega)) | (simp only [n0, Nat.reduceAdd, n1, n2, n3, n4, n5, n6, n7, n8, n9]; try rfl)); simp only [zp, zq, z0, z1])
          | ((with_reducible apply sx_buildSlice hp); infer_instance; (first | exact AggTy.size | exact OneTy.size); infer_instance; exact zl rfl; decide; (first | exact (rfl : _ = numbered 0 [_]) | exact (rfl : _ = numbered 0 [_, _]) | exact (rfl : _ = numbered 0 [_, _, _]) | exact (rfl : _ = numbered 0 [_, _, _, _])); exact rfl; (first | exact (rfl : _ = List.map (fun x : List Value => x.toArray) [_]) | exact (rfl : _ = List.map (fun x : List Value => x.toArray) [_, _]) | exact (rfl : _ = List.map (fun x : List Value => x.toArray) [_, _, _]) | exact (rfl : _ = List.map (fun x : List Value => x.toArray) [_, _, _, _])); (intro l hl <;> simp only [List.mem_cons, List.not_mem_nil, or_false] at hl <;> rcases hl with rfl | rfl | rfl | rfl <;> rfl); exact rfl; clear hp; (try clear w1); intro g w1 hp; simp only [zp, zq, z0, z1])
          | ((with_reducible refine sx_call hp (Hfine.out _ _ hp.blk) ?_); clear hp; (try clear w1); intro w1 hp))
    exact bodyPost_ret (results_two rfl rfl rfl) rfl ⟨rfl, hp.keep⟩
set_option maxHeartbeats 2000000 in
theorem rvolume_no (ps : List P3) (e : Int) (x : Bool) (hx : fineb ps = x) (he : (x = false ∧ e = 7) ∨ (x = true ∧ e = 8 ∧ ps.length ≠ 4)) (hlen : ps.length ≤ maxLen) (w : World) (base : Option Addr) (n cap : Nat) (hn : n = ps.length) (h : PSl w (.slice base n cap) ps) :
    Calls Try.prog 23 #[.slice base n cap] w (Ret (.tuple #[W 0, .int .i64 e]) w) := by
  have hfn : ∀ w1, Keep [] w w1 → Calls Try.prog 26 #[.slice base n cap] w1 (Ret (.bool x) w1) := fun w1 hk => by
    rw [← hx]
    exact rfine_any hlen w1 (h.keep hk)
  have Hfn := Lib.hid hfn
  clear hfn h hx
  rw [← hn] at he
  clear hlen hn
  rw [show W 0 = .agg #[.int .u64 0, .int .u64 0, .int .u64 0, .int .u64 0, .int .u64 0, .int .u64 0, .int .u64 0, .int .u64 0] from W_zero]
  rcases he with ⟨rfl, rfl⟩ | ⟨rfl, rfl, hl⟩
  · skip
    go_enter Try.func23, Try.ntmps23
    have hp := Hp.start [] w
    go_wp2_with (first
          | ((with_reducible apply sx_alloc hp); infer_instance; exact rfl; clear hp; (try clear w1); intro g w1 hp; simp only [zp, zq, z0, z1])
          | ((with_reducible apply sx_load_agg hp); exact zt rfl; infer_instance; infer_instance; (first | exact zl rfl | exact LB_le (by omega)); (first | (with_reducible exact LB_set (by omega)) | (simp only [n0, Nat.reduceAdd, n1, n2, n3, n4, n5, n6, n7, n8, n9]; try rfl)); simp only [zp, zq, z0, z1])
          | ((with_reducible apply sx_store hp); exact zt rfl; exact za rfl; exact rfl; (first | exact AggTy.size | exact OneTy.size); exact rfl; infer_instance; (first | (with_reducible exact LB_set (by omega)) | (simp only [n0, Nat.reduceAdd, n1, n2, n3, n4, n5, n6, n7, n8, n9]; try rfl)); (first | exact zl rfl | exact LB_le (by omega)); exact rfl; infer_instance; clear hp; (try clear w1); intro w1 hp)
          | ((with_reducible apply sx_indexAddr); exact zx rfl; exact zk rfl; infer_instance; (first | exact AggTy.size | exact OneTy.size); omega; omega; ((try simp only [m0, Int.reduceToNat, m1, m2, Nat.reduceMul, Nat.reduceAdd, m3, m4, m5, n0]); exact rfl); simp only [zp, zq, z0, z1])
          | ((with_reducible apply sx_load_far hp); exact zt rfl; assumption; infer_instance; assumption; (first | exact zl rfl | omega); simp only [zp, zq, z0, z1])
          | ((with_reducible refine sx_call hp (Hfn.out _ hp.keep) ?_); clear hp; (try clear w1); intro w1 hp))
    exact bodyPost_ret (results_two rfl ⟨_, rfl, run_load_agg hp (Nat.le_of_ble_eq_true rfl)⟩ rfl) rfl ⟨rfl, hp.keep⟩
  · have hl' : ((n : Int) != 4) = true := by simp; omega
    go_enter Try.func23, Try.ntmps23
    have hp := Hp.start [] w
    go_wp2_with (first
          | ((with_reducible apply sx_alloc hp); infer_instance; exact rfl; clear hp; (try clear w1); intro g w1 hp; simp only [zp, zq, z0, z1])
          | ((with_reducible apply sx_load_agg hp); exact zt rfl; infer_instance; infer_instance; (first | exact zl rfl | exact LB_le (by omega)); (first | (with_reducible exact LB_set (by omega)) | (simp only [n0, Nat.reduceAdd, n1, n2, n3, n4, n5, n6, n7, n8, n9]; try rfl)); simp only [zp, zq, z0, z1])
          | ((with_reducible apply sx_store hp); exact zt rfl; exact za rfl; exact rfl; (first | exact AggTy.size | exact OneTy.size); exact rfl; infer_instance; (first | (with_reducible exact LB_set (by omega)) | (simp only [n0, Nat.reduceAdd, n1, n2, n3, n4, n5, n6, n7, n8, n9]; try rfl)); (first | exact zl rfl | exact LB_le (by omega)); exact rfl; infer_instance; clear hp; (try clear w1); intro w1 hp)
          | ((with_reducible apply sx_indexAddr); exact zx rfl; exact zk rfl; infer_instance; (first | exact AggTy.size | exact OneTy.size); omega; omega; ((try simp only [m0, Int.reduceToNat, m1, m2, Nat.reduceMul, Nat.reduceAdd, m3, m4, m5, n0]); exact rfl); simp only [zp, zq, z0, z1])
          | ((with_reducible apply sx_load_far hp); exact zt rfl; assumption; infer_instance; assumption; (first | exact zl rfl | omega); simp only [zp, zq, z0, z1])
          | ((with_reducible refine sx_call hp (Hfn.out _ hp.keep) ?_); clear hp; (try clear w1); intro w1 hp))
    exact bodyPost_ret (results_two rfl ⟨_, rfl, run_load_agg hp (Nat.le_of_ble_eq_true rfl)⟩ rfl) rfl ⟨rfl, hp.keep⟩
set_option maxHeartbeats 2000000 in
theorem rvolume_yes (a b c p : P3) (hf : fineb [a, b, c, p] = true) (w : World) (g0 off cap : Nat) (bc : List Value) (t : TypeId) {z : Nat × Nat} (hbk : w.heap[g0]? = some (.cells bc.toArray t z)) (hl : off + 12 ≤ bc.length)
    (h0 : (bc.drop off).take 3 = [.int .i64 a.x, .int .i64 a.y, .int .i64 a.z]) (h1 : (bc.drop (off + 3)).take 3 = [.int .i64 b.x, .int .i64 b.y, .int .i64 b.z]) (h2 : (bc.drop (off + 6)).take 3 = [.int .i64 c.x, .int .i64 c.y, .int .i64 c.z]) (h3 : (bc.drop (off + 9)).take 3 = [.int .i64 p.x, .int .i64 p.y, .int .i64 p.z])
    (hfn : Hid (∀ w1, Keep [] w w1 → Calls Try.prog 26 #[.slice (some ⟨g0, off, none⟩) 4 cap] w1 (Ret (.bool true) w1))) :
    Calls Try.prog 23 #[.slice (some ⟨g0, off, none⟩) 4 cap] w (Ret (.tuple #[W (P3.det (b.sub a) (c.sub a) (p.sub a)), .int .i64 0]) w) := by
  have ha := fineb_mem hf (p := a) (by simp)
  have hb := fineb_mem hf (p := b) (by simp)
  have hc := fineb_mem hf (p := c) (by simp)
  have hp' := fineb_mem hf (p := p) (by simp)
  have D := Lib.hid (r7det_any a b c p ha hb hc hp')
  clear ha hb hc hp' hf
  go_enter Try.func23, Try.ntmps23
  have hp := Hp.start [] w
  go_wp2_with (first
          | ((with_reducible apply sx_alloc hp); infer_instance; exact rfl; clear hp; (try clear w1); intro g w1 hp; simp only [zp, zq, z0, z1])
          | ((with_reducible apply sx_load_agg hp); exact zt rfl; infer_instance; infer_instance; (first | exact zl rfl | exact LB_le (by omega)); (first | (with_reducible exact LB_set (by omega)) | (simp only [n0, Nat.reduceAdd, n1, n2, n3, n4, n5, n6, n7, n8, n9]; try rfl)); simp only [zp, zq, z0, z1])
          | ((with_reducible apply sx_store hp); exact zt rfl; exact za rfl; exact rfl; (first | exact AggTy.size | exact OneTy.size); exact rfl; infer_instance; (first | (with_reducible exact LB_set (by omega)) | (simp only [n0, Nat.reduceAdd, n1, n2, n3, n4, n5, n6, n7, n8, n9]; try rfl)); (first | exact zl rfl | exact LB_le (by omega)); exact rfl; infer_instance; clear hp; (try clear w1); intro w1 hp)
          | ((with_reducible apply sx_indexAddr); exact zx rfl; exact zk rfl; infer_instance; (first | exact AggTy.size | exact OneTy.size); omega; omega; ((try simp only [m0, Int.reduceToNat, m1, m2, Nat.reduceMul, Nat.reduceAdd, m3, m4, m5, n0]); exact rfl); simp only [zp, zq, z0, z1])
          | ((with_reducible apply sx_load_far hp); exact zt rfl; assumption; infer_instance; assumption; (first | exact zl rfl | omega); simp only [zp, zq, z0, z1])
          | ((with_reducible refine sx_call hp (hfn.out _ hp.keep) ?_); clear hp; (try clear w1); intro w1 hp))
  have hq := hp
  have hp := hq.sub (List.nil_sublist _)
  refine wp_drawn_hp hp hq [13] (.q 0 (.q 1 (.q 2 (.q 3 (.q 4 (.q 5 (.q 6 (.q 7 (.q 8 (.q 9 (.q 10 (.q 11 (.l 12 (.l 13 (.q 14 .nil))))))))))))))) (by kernel_rfl) (by kernel_rfl) ?_
  clear hp hq; (try clear w1); intro w1 hp hq
  repeat' (first
    | (((with_reducible apply sd_q); exact zo rfl); (first
        | ((with_reducible apply sd_load_agg hp); exact rfl; exact zt rfl; infer_instance; infer_instance; (first | exact zl rfl | exact LB_le (by omega)); (first | (with_reducible exact LB_set (by omega)) | (simp only [n0, Nat.reduceAdd, n1, n2, n3, n4, n5, n6, n7, n8, n9]; try rfl)); simp only [zp, zq, z0, z1])
        | ((with_reducible apply sd_load_far hp); exact rfl; exact zt rfl; assumption; infer_instance; assumption; (first | exact zl rfl | omega); simp only [zp, zq, z0, z1])
        | ((with_reducible apply sd_move hp); exact zs rfl; simp only [zp, zq, z0, z1])
        | ((with_reducible apply sd_assign hp); exact zi rfl; simp only [zp, zq, z0, z1])
        | ((with_reducible apply sd_indexAddr hp); exact rfl; exact zx rfl; exact zk rfl; infer_instance; (first | exact AggTy.size | exact OneTy.size); omega; omega; ((try simp only [m0, Int.reduceToNat, m1, m2, Nat.reduceMul, Nat.reduceAdd, m3, m4, m5, n0]); exact rfl); simp only [zp, zq, z0, z1])
        | ((with_reducible apply sd_pure hp); exact rfl; (focus (intro _; go_simp; (try go_ints); try with_reducible rfl)); simp only [zp, zq, z0, z1])))
    | (((with_reducible apply sd_l); exact zo rfl); (first
        | ((with_reducible apply sd_call hp); exact rfl; (focus (intro _; go_simp; try first | with_reducible rfl | exact ⟨rfl, rfl⟩)); (with_reducible exact fun w => D.out w); exact hq; clear hp hq; (try clear w1); intro w1 hp hq; simp only [zp, zq, z0, z1])
        | ((with_reducible apply sd_store_far hq); exact rfl; exact zt rfl; (first | exact za rfl | exact zu rfl | exact zi rfl | exact zb rfl | exact zr rfl | exact zs rfl | exact zf rfl | exact zg rfl | exact zn rfl | exact zv rfl | exact zw rfl); exact rfl; (first | exact AggTy.size | exact OneTy.size); exact rfl; infer_instance; (first | (with_reducible exact LB_set (by omega)) | (simp only [n0, Nat.reduceAdd, n1, n2, n3, n4, n5, n6, n7, n8, n9]; try rfl)); (first | exact zl rfl | exact LB_le (by omega)); exact rfl; infer_instance; (repeat (first | exact List.Sublist.refl _ | apply List.Sublist.cons)); clear hp hq; (try clear w1); intro w1 hp hq)
        | ((with_reducible apply sd_store hq); exact rfl; exact zt rfl; (first | exact za rfl | exact zu rfl | exact zi rfl | exact zb rfl | exact zr rfl | exact zs rfl | exact zf rfl | exact zg rfl | exact zn rfl | exact zv rfl | exact zw rfl); exact rfl; (first | exact AggTy.size | exact OneTy.size); exact rfl; infer_instance; (first | (with_reducible exact LB_set (by omega)) | (simp only [n0, Nat.reduceAdd, n1, n2, n3, n4, n5, n6, n7, n8, n9]; try rfl)); (first | exact zl rfl | exact LB_le (by omega)); exact rfl; infer_instance; exact rfl; clear hp hq; (try clear w1); intro w1 hq; have hp := True.intro)))
    | ((with_reducible apply sd_nil); clear hp; have hp := hq; clear hq))
  go_wp2
  exact bodyPost_ret (results_two rfl ⟨_, rfl, run_load_agg hp (Nat.le_of_ble_eq_true rfl)⟩ rfl) rfl ⟨rfl, hp.keep⟩
end Go.Proofs.Ythnpmmpcejfllaa
