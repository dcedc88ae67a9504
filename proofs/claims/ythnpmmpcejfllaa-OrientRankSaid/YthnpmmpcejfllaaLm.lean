/-
  ninepinlaw07: same, moved, small (contracts).
-/
import Derived.Test.YthnpmmpcejfllaaLa
import Derived.Test.YthnpmmpcejfllaaPa
set_option linter.unusedSimpArgs false
set_option linter.unusedVariables false
set_option maxRecDepth 100000
namespace Go.Proofs.Ythnpmmpcejfllaa
open Go Go.RowKit

/-- A slice of ints, as it lies in a world. -/
def NSl (w : World) (v : Value) (l : List Int) : Prop := ∃ base cap, v = .slice base l.length cap ∧ ∀ k n, l[k]? = some n → ∃ g off bc t z, base = some ⟨g, off, none⟩ ∧ w.heap[g]? = some (.cells (bc : List Value).toArray t z) ∧ bc[off + k * 1]? = some (.int .i64 n)
theorem NSl.keep {w w' : World} {v : Value} {l : List Int} (h : NSl w v l) (hk : Keep [] w w') : NSl w' v l := by
  obtain ⟨base, cap, hv, h⟩ := h
  refine ⟨base, cap, hv, fun k n hn => ?_⟩
  obtain ⟨g, off, bc, t, z, hb, hh, hg⟩ := h k n hn
  refine ⟨g, off, bc, t, z, hb, ?_, hg⟩
  have hlt : g < w.heap.size := by
    rcases Nat.lt_or_ge g w.heap.size with h' | h'
    · exact h'
    · rw [Array.getElem?_eq_none h'] at hh; cases hh
  rw [hk.block g hlt (by simp)]
  exact hh
theorem NSl.nil {w : World} : NSl w (.slice none 0 0) [] := ⟨none, 0, rfl, fun k n h => by simp at h⟩
theorem NSl.of {w : World} {g cap : Nat} {t : TypeId} {l : List Int} {junk : List Value} (h : w.heap[g]? = some (.cells (l.map (Value.int .i64) ++ junk).toArray t (0, 0))) : NSl w (.slice (some ⟨g, 0, none⟩) l.length cap) l := by
  refine ⟨_, cap, rfl, fun k n hn => ⟨g, 0, _, t, _, rfl, h, ?_⟩⟩
  have hlt : k < l.length := by
    rcases Nat.lt_or_ge k l.length with h' | h'
    · exact h'
    · rw [List.getElem?_eq_none h'] at hn; cases hn
  rw [Nat.zero_add, Nat.mul_one, List.getElem?_append_left (by simpa using hlt), List.getElem?_map, hn]
  rfl
set_option maxHeartbeats 2000000 in
theorem same_eq (l : List Int) (hlen : l.length ≤ maxLen) (v1 v2 : Value) (w : World) (h1 : NSl w v1 l) (h2 : NSl w v2 l) : Calls Try.prog 16 #[v1, v2] w (Ret (.bool true) w) := by
  obtain ⟨b1, c1, rfl, h1⟩ := h1
  obtain ⟨b2, c2, rfl, h2⟩ := h2
  have H1 := Lib.hid h1
  have H2 := Lib.hid h2
  clear h1 h2
  unfold maxLen at hlen
  go_enter Try.func16, Try.ntmps16
  have hp := Hp.start [] w
  go_wp2_with (first
          | ((with_reducible apply sx_load_one hp); exact zt rfl; infer_instance; infer_instance; (first | exact zio rfl | exact LB_get (by omega)); simp only [zp, zq, z0, z1])
          | ((with_reducible apply sx_indexAddr); exact zx rfl; exact zk rfl; infer_instance; (first | exact AggTy.size | exact OneTy.size); omega; omega; ((try simp only [m0, Int.reduceToNat, m1, m2, Nat.reduceMul, Nat.reduceAdd, m3, m4, m5, n0]); exact rfl); simp only [zp, zq, z0, z1])
          | ((with_reducible apply sx_load_far1 hp); exact zt rfl; assumption; infer_instance; (first | assumption | (first | exact zio rfl | exact LB_get (by omega))); simp only [zp, zq, z0, z1]))
  go_loopw [5] (fun i wr => ∃ k : Nat, k ≤ l.length ∧ i = .int .i64 k ∧ Hp [] w [] wr) (fun i _ => l.length - (intOf i).toNat)
  case atStart => exact ⟨0, by omega, rfl, hp⟩
  case round =>
    clear hp
    obtain ⟨k, hk, rfl, hp⟩ := hrel
    by_cases hk1 : k < l.length
    · obtain ⟨n, hn⟩ : ∃ n, l[k]? = some n := ⟨_, List.getElem?_eq_getElem hk1⟩
      obtain ⟨ga, oa, bca, ta, za, rfl, hha, hga⟩ := H1.out k n hn
      obtain ⟨gb, ob, bcb, tb, zb, rfl, hhb, hgb⟩ := H2.out k n hn
      clear hn
      have hk2 : (k : Int) < l.length := by omega
      go_wp2_with (first
          | ((with_reducible apply sx_load_one hp); exact zt rfl; infer_instance; infer_instance; (first | exact zio rfl | exact LB_get (by omega) | assumption); simp only [zp, zq, z0, z1])
          | ((with_reducible apply sx_indexAddr); exact zx rfl; exact zk rfl; infer_instance; (first | exact AggTy.size | exact OneTy.size); omega; omega; ((try simp only [m0, Int.reduceToNat, m1, m2, Nat.reduceMul, Nat.reduceAdd, m3, m4, m5, n0]); exact rfl); simp only [zp, zq, z0, z1])
          | ((with_reducible apply sx_load_far1 hp); exact zt rfl; assumption; infer_instance; (first | assumption | (first | exact zio rfl | exact LB_get (by omega) | assumption)); simp only [zp, zq, z0, z1]))
      have hq := hp
      refine wp_drawn_hp hp hq [] (.q 0 (.q 1 (.q 2 (.q 3 (.q 4 (.q 5 (.q 6 (.q 7 (.q 8 .nil))))))))) (by kernel_rfl) (by kernel_rfl) ?_
      clear hp hq; (try clear w1); intro w1 hp hq
      ((with_reducible apply sd_q); exact zo rfl)
      ((with_reducible apply sd_move hp); exact zs rfl; simp only [zp, zq, z0, z1])
      ((with_reducible apply sd_q); exact zo rfl)
      ((with_reducible apply sd_move hp); exact zi rfl; simp only [zp, zq, z0, z1])
      ((with_reducible apply sd_q); exact zo rfl)
      (first
      | ((with_reducible apply sd_indexAddr hp); exact rfl; exact zx rfl; exact zk rfl; infer_instance; (first | exact AggTy.size | exact OneTy.size); omega; omega; ((try simp only [m0, Int.reduceToNat, m1, m2, Nat.reduceMul, Nat.reduceAdd, m3, m4, m5, n0]); exact rfl); simp only [zp, zq, z0, z1])
      | ((with_reducible apply sd_pure hp); exact rfl; (focus (intro _; go_simp; (try go_ints); try with_reducible rfl)); simp only [zp, zq, z0, z1]))
      ((with_reducible apply sd_q); exact zo rfl)
      (first
      | ((with_reducible apply sd_load_one hp); exact rfl; exact zt rfl; infer_instance; infer_instance; (first | exact zio rfl | exact LB_get (by omega) | assumption); simp only [zp, zq, z0, z1])
      | ((with_reducible apply sd_load_far1 hp); exact rfl; exact zt rfl; assumption; infer_instance; (first | assumption | (first | exact zio rfl | exact LB_get (by omega) | assumption)); simp only [zp, zq, z0, z1]))
      ((with_reducible apply sd_q); exact zo rfl)
      ((with_reducible apply sd_move hp); exact zs rfl; simp only [zp, zq, z0, z1])
      ((with_reducible apply sd_q); exact zo rfl)
      ((with_reducible apply sd_move hp); exact zi rfl; simp only [zp, zq, z0, z1])
      ((with_reducible apply sd_q); exact zo rfl)
      (first
      | ((with_reducible apply sd_indexAddr hp); exact rfl; exact zx rfl; exact zk rfl; infer_instance; (first | exact AggTy.size | exact OneTy.size); omega; omega; ((try simp only [m0, Int.reduceToNat, m1, m2, Nat.reduceMul, Nat.reduceAdd, m3, m4, m5, n0]); exact rfl); simp only [zp, zq, z0, z1])
      | ((with_reducible apply sd_pure hp); exact rfl; (focus (intro _; go_simp; (try go_ints); try with_reducible rfl)); simp only [zp, zq, z0, z1]))
      ((with_reducible apply sd_q); exact zo rfl)
      (first
      | ((with_reducible apply sd_load_one hp); exact rfl; exact zt rfl; infer_instance; infer_instance; (first | exact zio rfl | exact LB_get (by omega) | assumption); simp only [zp, zq, z0, z1])
      | ((with_reducible apply sd_load_far1 hp); exact rfl; exact zt rfl; assumption; infer_instance; (first | assumption | (first | exact zio rfl | exact LB_get (by omega) | assumption)); simp only [zp, zq, z0, z1]))
      ((with_reducible apply sd_q); exact zo rfl)
      ((with_reducible apply sd_pure hp); exact rfl; (focus (intro _; go_simp; (try go_ints); try with_reducible rfl)); simp only [zp, zq, z0, z1])
      (with_reducible apply sd_nil)
      clear hp; have hp := hq; clear hq
      go_wp2
      go_roundw
      case rel => exact ⟨k + 1, by omega, by go_num, hp⟩
      case measure => simp [intOf]; omega
    · obtain rfl : k = l.length := by omega
      go_wp2_with (first
          | ((with_reducible apply sx_load_one hp); exact zt rfl; infer_instance; infer_instance; (first | exact zio rfl | exact LB_get (by omega)); simp only [zp, zq, z0, z1])
          | ((with_reducible apply sx_indexAddr); exact zx rfl; exact zk rfl; infer_instance; (first | exact AggTy.size | exact OneTy.size); omega; omega; ((try simp only [m0, Int.reduceToNat, m1, m2, Nat.reduceMul, Nat.reduceAdd, m3, m4, m5, n0]); exact rfl); simp only [zp, zq, z0, z1])
          | ((with_reducible apply sx_load_far1 hp); exact zt rfl; assumption; infer_instance; (first | assumption | (first | exact zio rfl | exact LB_get (by omega))); simp only [zp, zq, z0, z1]))
      exact bodyPost_ret (results_one rfl rfl) rfl ⟨rfl, hp.keep⟩
set_option maxHeartbeats 1000000 in
theorem moved_any (a b : P3) (h : (a.add b).i64) (w : World) : Calls Try.prog 20 #[PV a, PV b] w (Ret (PV (a.add b)) w) := by
  obtain ⟨ax, ay, az⟩ := a
  obtain ⟨bx, by', bz⟩ := b
  obtain ⟨h1, h2, h3⟩ := h
  unfold P3.add I64 at *
  dsimp only at h1 h2 h3 ⊢
  go_enter Try.func20, Try.ntmps20
  have hp := Hp.start [] w
  go_wp2_with (first
          | ((with_reducible apply sx_box hp); exact za rfl; exact rfl; clear hp; (try clear w1); intro g w1 hp; simp only [zp, zq, z0, z1])
          | ((with_reducible apply sx_alloc hp); infer_instance; exact rfl; clear hp; (try clear w1); intro g w1 hp; simp only [zp, zq, z0, z1])
          | ((with_reducible apply sx_load_one hp); exact zt rfl; infer_instance; infer_instance; (first | exact zio rfl | exact LB_get (by omega)); simp only [zp, zq, z0, z1])
          | ((with_reducible apply sx_store hp); exact zt rfl; exact za rfl; exact rfl; (first | exact AggTy.size | exact OneTy.size); exact rfl; infer_instance; (first | (with_reducible exact LB_set (by omega)) | (simp only [n0, Nat.reduceAdd, n1, n2, n3, n4, n5, n6, n7, n8, n9]; try rfl)); (first | exact zl rfl | exact LB_le (by omega)); exact rfl; infer_instance; clear hp; (try clear w1); intro w1 hp))
  exact bodyPost_ret (results_one rfl ⟨_, rfl, run_load_agg hp (Nat.le_of_ble_eq_true rfl)⟩) rfl ⟨rfl, hp.keep⟩
/-- A point's numbers are at most 2^26. -/
def P3.small (p : P3) : Prop := (-67108864 ≤ p.x ∧ p.x ≤ 67108864) ∧ (-67108864 ≤ p.y ∧ p.y ≤ 67108864) ∧ (-67108864 ≤ p.z ∧ p.z ≤ 67108864)
instance (p : P3) : Decidable p.small := inferInstanceAs (Decidable (_ ∧ _))
theorem run_max3 {P : Program} (ts : Array TypeId) (t : TypeId) (x y z : Int) : ∃ m : Int, (∀ w, (Builtin.max_ ts t #[.int .i64 x, .int .i64 y, .int .i64 z]).run P w = .ok (.int .i64 m) w) ∧ (m ≤ 67108864 ↔ x ≤ 67108864 ∧ y ≤ 67108864 ∧ z ≤ 67108864) := by
  refine ⟨if z > (if y > x then y else x) then z else (if y > x then y else x), fun w => ?_, ?_⟩
  · simp [Builtin.max_, Builtin.max2]
  · split <;> split <;> omega
theorem run_min3 {P : Program} (ts : Array TypeId) (t : TypeId) (x y z : Int) : ∃ m : Int, (∀ w, (Builtin.min_ ts t #[.int .i64 x, .int .i64 y, .int .i64 z]).run P w = .ok (.int .i64 m) w) ∧ (-67108864 ≤ m ↔ -67108864 ≤ x ∧ -67108864 ≤ y ∧ -67108864 ≤ z) := by
  refine ⟨if z < (if y < x then y else x) then z else (if y < x then y else x), fun w => ?_, ?_⟩
  · simp [Builtin.min_, Builtin.min2]
  · split <;> split <;> omega
set_option maxHeartbeats 1000000 in
theorem small_core (x y z M m : Int) (r : Bool) (Hr : Hid (r = decide (M ≤ 67108864 ∧ -67108864 ≤ m))) (hM : ∀ w, (Builtin.max_ #[2, 2, 2] 2 #[.int .i64 x, .int .i64 y, .int .i64 z]).run Try.prog w = .ok (.int .i64 M) w)
    (hm : ∀ w, (Builtin.min_ #[2, 2, 2] 2 #[.int .i64 x, .int .i64 y, .int .i64 z]).run Try.prog w = .ok (.int .i64 m) w) (w : World) : Calls Try.prog 24 #[PV ⟨x, y, z⟩] w (Ret (.bool r) w) := by
  by_cases h1 : M ≤ 67108864
  · by_cases h2 : -67108864 ≤ m
    · obtain rfl : r = true := by rw [Hr.out]; simp [h1, h2]
      go_enter Try.func24, Try.ntmps24
      have hp := Hp.start [] w
      go_wp2_with (first
          | ((with_reducible apply sx_box hp); exact za rfl; exact rfl; clear hp; (try clear w1); intro g w1 hp; simp only [zp, zq, z0, z1])
          | ((with_reducible apply sx_load_one hp); exact zt rfl; infer_instance; infer_instance; (first | exact zio rfl | exact LB_get (by omega)); simp only [zp, zq, z0, z1])
          | ((with_reducible apply sx_strip); exact rfl)
          | ((with_reducible apply sx_unwanted); exact rfl; simp only [zp, zq, z0, z1]))
      exact bodyPost_ret (results_one rfl rfl) rfl ⟨rfl, hp.keep⟩
    · obtain rfl : r = false := by rw [Hr.out]; simp [h2]
      go_enter Try.func24, Try.ntmps24
      have hp := Hp.start [] w
      go_wp2_with (first
          | ((with_reducible apply sx_box hp); exact za rfl; exact rfl; clear hp; (try clear w1); intro g w1 hp; simp only [zp, zq, z0, z1])
          | ((with_reducible apply sx_load_one hp); exact zt rfl; infer_instance; infer_instance; (first | exact zio rfl | exact LB_get (by omega)); simp only [zp, zq, z0, z1])
          | ((with_reducible apply sx_strip); exact rfl)
          | ((with_reducible apply sx_unwanted); exact rfl; simp only [zp, zq, z0, z1]))
      exact bodyPost_ret (results_one rfl rfl) rfl ⟨rfl, hp.keep⟩
  · obtain rfl : r = false := by rw [Hr.out]; simp [h1]
    go_enter Try.func24, Try.ntmps24
    have hp := Hp.start [] w
    go_wp2_with (first
          | ((with_reducible apply sx_box hp); exact za rfl; exact rfl; clear hp; (try clear w1); intro g w1 hp; simp only [zp, zq, z0, z1])
          | ((with_reducible apply sx_load_one hp); exact zt rfl; infer_instance; infer_instance; (first | exact zio rfl | exact LB_get (by omega)); simp only [zp, zq, z0, z1]))
    exact bodyPost_ret (results_one rfl rfl) rfl ⟨rfl, hp.keep⟩
theorem small_any (p : P3) (w : World) : Calls Try.prog 24 #[PV p] w (Ret (.bool (decide p.small)) w) := by
  obtain ⟨x, y, z⟩ := p
  obtain ⟨M, hM, eM⟩ := run_max3 (P := Try.prog) #[2, 2, 2] 2 x y z
  obtain ⟨m, hm, em⟩ := run_min3 (P := Try.prog) #[2, 2, 2] 2 x y z
  exact small_core x y z M m _ (Lib.hid (decide_eq_decide.2 (by rw [eM, em]; unfold P3.small; dsimp only; omega))) hM hm w
end Go.Proofs.Ythnpmmpcejfllaa
