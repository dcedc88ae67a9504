/-
  Package orient: fine, Side (contracts).
-/
import Derived.Test.YthnpmmpcejfllaaHa
set_option linter.unusedSimpArgs false
set_option maxRecDepth 100000
namespace Go.Proofs.Ythnpmmpcejfllaa
open Go Go.RowKit

theorem fine_nil (w : World) : Calls Try.prog 29 #[.slice none 0 0] w (Ret (.bool true) w) := by
  go_enter Try.func29, Try.ntmps29
  have hp := Hp.start [] w
  go_wp2_with (first
          | ((with_reducible apply sx_alloc hp); infer_instance; exact rfl; clear hp; (try clear w1); intro g w1 hp; simp only [zp, zq, z0, z1])
          | ((with_reducible apply sx_load_agg hp); exact zt rfl; infer_instance; infer_instance; (first | exact zl rfl | exact LB_le (by omega)); (first | (with_reducible exact LB_set (by omega)) | (simp only [n0, Nat.reduceAdd, n1, n2, n3, n4, n5, n6, n7, n8, n9]; try rfl)); simp only [zp, zq, z0, z1])
          | ((with_reducible apply sx_store hp); exact zt rfl; exact za rfl; exact rfl; (first | exact AggTy.size | exact OneTy.size); exact rfl; infer_instance; (first | (with_reducible exact LB_set (by omega)) | (simp only [n0, Nat.reduceAdd, n1, n2, n3, n4, n5, n6, n7, n8, n9]; try rfl)); (first | exact zl rfl | exact LB_le (by omega)); exact rfl; infer_instance; clear hp; (try clear w1); intro w1 hp)
          | ((with_reducible apply sx_indexAddr); exact zx rfl; exact zk rfl; infer_instance; (first | exact AggTy.size | exact OneTy.size); omega; omega; ((try simp only [m0, Int.reduceToNat, m1, m2, Nat.reduceMul, Nat.reduceAdd, m3, m4, m5, n0]); exact rfl); simp only [zp, zq, z0, z1])
          | ((with_reducible apply sx_load_far hp); exact zt rfl; assumption; infer_instance; assumption; (first | exact zl rfl | omega); simp only [zp, zq, z0, z1]))
  apply wp_loop_once
  go_wp2_with (first
          | ((with_reducible apply sx_alloc hp); infer_instance; exact rfl; clear hp; (try clear w1); intro g w1 hp; simp only [zp, zq, z0, z1])
          | ((with_reducible apply sx_load_agg hp); exact zt rfl; infer_instance; infer_instance; (first | exact zl rfl | exact LB_le (by omega)); (first | (with_reducible exact LB_set (by omega)) | (simp only [n0, Nat.reduceAdd, n1, n2, n3, n4, n5, n6, n7, n8, n9]; try rfl)); simp only [zp, zq, z0, z1])
          | ((with_reducible apply sx_store hp); exact zt rfl; exact za rfl; exact rfl; (first | exact AggTy.size | exact OneTy.size); exact rfl; infer_instance; (first | (with_reducible exact LB_set (by omega)) | (simp only [n0, Nat.reduceAdd, n1, n2, n3, n4, n5, n6, n7, n8, n9]; try rfl)); (first | exact zl rfl | exact LB_le (by omega)); exact rfl; infer_instance; clear hp; (try clear w1); intro w1 hp)
          | ((with_reducible apply sx_indexAddr); exact zx rfl; exact zk rfl; infer_instance; (first | exact AggTy.size | exact OneTy.size); omega; omega; ((try simp only [m0, Int.reduceToNat, m1, m2, Nat.reduceMul, Nat.reduceAdd, m3, m4, m5, n0]); exact rfl); simp only [zp, zq, z0, z1])
          | ((with_reducible apply sx_load_far hp); exact zt rfl; assumption; infer_instance; assumption; (first | exact zl rfl | omega); simp only [zp, zq, z0, z1]))
  exact bodyPost_ret (results_one rfl rfl) rfl ⟨rfl, hp.keep⟩
theorem fine_any {ps : List P3} {v : Value} (hlen : ps.length ≤ maxLen) (w : World) (h : PSl w v ps) : Calls Try.prog 29 #[v] w (Ret (.bool (fineb ps)) w) := by
  rcases h with ⟨rfl, rfl⟩ | ⟨g, off, cap, bc, t, z, rfl, hb, hv⟩
  · exact fine_nil w
  · exact fine_far ps _ (Lib.hid rfl) hlen w g off cap bc t hb hv

theorem may_sub {a b : P3} (ha : a.may) (hb : b.may) : (a.sub b).i64 := by
  unfold P3.may may at ha hb
  unfold P3.i64 P3.sub I64
  dsimp only
  omega
theorem det_fit {a b c : P3} (ha : a.i64) (hb : b.i64) (hc : c.i64) : Fit (P3.det a b c) := by
  have hxx := i64_mul hb.1 hc.2.1
  have hxy := i64_mul hb.2.1 hc.1
  have hxz := i64_mul hb.1 hc.2.2
  have hzx := i64_mul hb.2.2 hc.1
  have hyz := i64_mul hb.2.1 hc.2.2
  have hzy := i64_mul hb.2.2 hc.2.1
  have h1 := i64_det (a := (b.cross c).x) (by unfold P3.cross; dsimp only; omega) ha.1
  have h2 := i64_det (a := (b.cross c).y) (by unfold P3.cross; dsimp only; omega) ha.2.1
  have h3 := i64_det (a := (b.cross c).z) (by unfold P3.cross; dsimp only; omega) ha.2.2
  unfold P3.det P3.dot Fit M511
  omega
/-- On which side of a, b, c point p lies. -/
def side (a b c p : P3) : Int := sgn (P3.det (b.sub a) (c.sub a) (p.sub a))
/-- What Side hands back. -/
def sideV (a b c p : P3) : Value := if fineb [a, b, c, p] then .tuple #[.int .i64 (side a b c p), .int .i64 0] else .tuple #[.int .i64 0, .int .i64 7]
theorem fineb_mem {ps : List P3} (h : fineb ps = true) {p : P3} (hp : p ∈ ps) : p.may := by
  have := List.all_eq_true.1 h p hp
  simpa using this
set_option maxHeartbeats 2000000 in
theorem side_any (a b c p : P3) (w : World) : Calls Try.prog 19 #[PV a, PV b, PV c, PV p] w (Ret (sideV a b c p) w) := by
  have hfine : ∀ w g, w.heap[g]? = some (.cells [.int .i64 a.x, .int .i64 a.y, .int .i64 a.z, .int .i64 b.x, .int .i64 b.y, .int .i64 b.z, .int .i64 c.x, .int .i64 c.y, .int .i64 c.z, .int .i64 p.x, .int .i64 p.y, .int .i64 p.z].toArray 33 (0, 0)) →
      Calls Try.prog 29 #[.slice (some ⟨g, 0, none⟩) 4 4] w (Ret (.bool (fineb [a, b, c, p])) w) := fun w g hb => fine_far [a, b, c, p] _ (Lib.hid rfl) (by unfold maxLen; simp) w g 0 4 _ _ hb rfl
  unfold sideV
  by_cases hf : fineb [a, b, c, p] = true
  · rw [if_pos hf]
    rw [hf] at hfine
    have Hfine := Lib.hid hfine
    clear hfine
    have ha := fineb_mem hf (p := a) (by simp)
    have hb := fineb_mem hf (p := b) (by simp)
    have hc := fineb_mem hf (p := c) (by simp)
    have hp' := fineb_mem hf (p := p) (by simp)
    have L1 := Lib.hid (oless_any b a (may_sub hb ha))
    have L2 := Lib.hid (oless_any c a (may_sub hc ha))
    have L3 := Lib.hid (oless_any p a (may_sub hp' ha))
    have D := Lib.hid (det_any _ _ _ (may_sub hb ha) (may_sub hc ha) (may_sub hp' ha))
    have Sg := Lib.hid (sign_any _ (det_fit (may_sub hb ha) (may_sub hc ha) (may_sub hp' ha)))
    clear ha hb hc hp' hf
    unfold side
    go_enter Try.func19, Try.ntmps19
    have hp := Hp.start [] w
    go_wp2_with (first
          | ((with_reducible apply sx_box hp); exact za rfl; exact rfl; clear hp; (try clear w1); intro g w1 hp; simp only [zp, zq, z0, z1])
          | ((with_reducible apply sx_load_agg hp); exact zt rfl; infer_instance; infer_instance; (first | exact zl rfl | exact LB_le (by omega)); (first | (with_reducible exact LB_set (by omega)) | (simp only [n0, Nat.reduceAdd, n1, n2, n3, n4, n5, n6, n7, n8, n9]; try rfl)); simp only [zp, zq, z0, z1])
          | ((with_reducible apply sx_buildSlice hp); infer_instance; (first | exact AggTy.size | exact OneTy.size); infer_instance; exact zl rfl; decide; (first | exact (rfl : _ = numbered 0 [_]) | exact (rfl : _ = numbered 0 [_, _]) | exact (rfl : _ = numbered 0 [_, _, _]) | exact (rfl : _ = numbered 0 [_, _, _, _])); exact rfl; (first | exact (rfl : _ = List.map (fun x : List Value => x.toArray) [_]) | exact (rfl : _ = List.map (fun x : List Value => x.toArray) [_, _]) | exact (rfl : _ = List.map (fun x : List Value => x.toArray) [_, _, _]) | exact (rfl : _ = List.map (fun x : List Value => x.toArray) [_, _, _, _])); (intro l hl <;> simp only [List.mem_cons, List.not_mem_nil, or_false] at hl <;> rcases hl with rfl | rfl | rfl | rfl <;> rfl); exact rfl; clear hp; (try clear w1); intro g w1 hp; simp only [zp, zq, z0, z1])
          | ((with_reducible refine sx_call hp (Hfine.out _ _ hp.blk) ?_); clear hp; (try clear w1); intro w1 hp))
    have hq := hp
    refine wp_drawn_hp hp hq [] (.q 0 (.q 1 (.q 3 (.q 4 (.q 6 (.q 7 (.l 2 (.l 5 (.l 8 (.l 9 (.l 10 (.q 11 (.q 12 .nil))))))))))))) (by kernel_rfl) (by kernel_rfl) ?_
    clear hp hq; (try clear w1); intro w1 hp hq
    repeat' (first
      | (((with_reducible apply sd_q); exact zo rfl); (first
          | ((with_reducible apply sd_load_agg hp); exact rfl; exact zt rfl; infer_instance; infer_instance; (first | exact zl rfl | exact LB_le (by omega)); (first | (with_reducible exact LB_set (by omega)) | (simp only [n0, Nat.reduceAdd, n1, n2, n3, n4, n5, n6, n7, n8, n9]; try rfl)); simp only [zp, zq, z0, z1])
          | ((with_reducible apply sd_assign hp); exact zi rfl; simp only [zp, zq, z0, z1])
          | ((with_reducible apply sd_pure hp); exact rfl; (focus (intro _; go_simp; (try go_ints); try with_reducible rfl)); simp only [zp, zq, z0, z1])))
      | (((with_reducible apply sd_l); exact zo rfl); ((with_reducible apply sd_call hp); exact rfl; (focus (intro _; go_simp; try first | with_reducible rfl | exact ⟨rfl, rfl⟩)); (with_reducible first | exact fun w => L1.out w | exact fun w => L2.out w | exact fun w => L3.out w | exact fun w => D.out w | exact fun w => Sg.out w); exact hq; clear hp hq; (try clear w1); intro w1 hp hq; simp only [zp, zq, z0, z1]))
      | ((with_reducible apply sd_nil); clear hp; have hp := hq; clear hq))
    go_wp2
    exact bodyPost_ret (results_two rfl rfl rfl) rfl ⟨rfl, hp.keep⟩
  · rw [if_neg hf]
    rw [Bool.eq_false_iff.2 hf] at hfine
    have Hfine := Lib.hid hfine
    clear hfine hf
    go_enter Try.func19, Try.ntmps19
    have hp := Hp.start [] w
    go_wp2_with (first
          | ((with_reducible apply sx_box hp); exact za rfl; exact rfl; clear hp; (try clear w1); intro g w1 hp; simp only [zp, zq, z0, z1])
          | ((with_reducible apply sx_load_agg hp); exact zt rfl; infer_instance; infer_instance; (first | exact zl rfl | exact LB_le (by omega)); (first | (with_reducible exact LB_set (by omega)) | (simp only [n0, Nat.reduceAdd, n1, n2, n3, n4, n5, n6, n7, n8, n9]; try rfl)); simp only [zp, zq, z0, z1])
          | ((with_reducible apply sx_buildSlice hp); infer_instance; (first | exact AggTy.size | exact OneTy.size); infer_instance; exact zl rfl; decide; (first | exact (rfl : _ = numbered 0 [_]) | exact (rfl : _ = numbered 0 [_, _]) | exact (rfl : _ = numbered 0 [_, _, _]) | exact (rfl : _ = numbered 0 [_, _, _, _])); exact rfl; (first | exact (rfl : _ = List.map (fun x : List Value => x.toArray) [_]) | exact (rfl : _ = List.map (fun x : List Value => x.toArray) [_, _]) | exact (rfl : _ = List.map (fun x : List Value => x.toArray) [_, _, _]) | exact (rfl : _ = List.map (fun x : List Value => x.toArray) [_, _, _, _])); (intro l hl <;> simp only [List.mem_cons, List.not_mem_nil, or_false] at hl <;> rcases hl with rfl | rfl | rfl | rfl <;> rfl); exact rfl; clear hp; (try clear w1); intro g w1 hp; simp only [zp, zq, z0, z1])
          | ((with_reducible refine sx_call hp (Hfine.out _ _ hp.blk) ?_); clear hp; (try clear w1); intro w1 hp))
    exact bodyPost_ret (results_two rfl rfl rfl) rfl ⟨rfl, hp.keep⟩
end Go.Proofs.Ythnpmmpcejfllaa
