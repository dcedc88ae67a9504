/-
  ninepinlaw07.OrientParts (contract).
-/
import Derived.Test.YthnpmmpcejfllaaLa
import Derived.Test.YthnpmmpcejfllaaHv
set_option linter.unusedSimpArgs false
set_option linter.unusedVariables false
set_option maxRecDepth 100000
namespace Go.Proofs.Ythnpmmpcejfllaa
open Go Go.RowKit

theorem vol_parts (a b c d p : P3) : (vol [p, b, c, d] + vol [a, p, c, d]) + (vol [a, b, p, d] + vol [a, b, c, p]) = vol [a, b, c, d] := by
  simp only [vol, P3.det, P3.dot, P3.cross, P3.sub]
  grind
theorem vol_bd {a b c d : P3} (h : fineb [a, b, c, d] = true) : -1000000000000000000000000000 ≤ vol [a, b, c, d] ∧ vol [a, b, c, d] ≤ 1000000000000000000000000000 := by
  have ha := fineb_mem h (p := a) (by simp)
  have hb := fineb_mem h (p := b) (by simp)
  have hc := fineb_mem h (p := c) (by simp)
  have hd := fineb_mem h (p := d) (by simp)
  unfold P3.may may at ha hb hc hd
  have m2 : ∀ {x y z u : Int}, (-536870912 ≤ x ∧ x ≤ 536870912) → (-536870912 ≤ y ∧ y ≤ 536870912) → (-536870912 ≤ z ∧ z ≤ 536870912) → (-536870912 ≤ u ∧ u ≤ 536870912) → -576460752303423488 ≤ x * y - z * u ∧ x * y - z * u ≤ 576460752303423488 := fun {x y z u} hx hy hz hu => by
    have h1 := bd_mul (A := 536870912) (B := 536870912) hx hy
    have h2 := bd_mul (A := 536870912) (B := 536870912) hz hu
    omega
  have m3 : ∀ {x y : Int}, (-576460752303423488 ≤ x ∧ x ≤ 576460752303423488) → (-536870912 ≤ y ∧ y ≤ 536870912) → -309485009821345068724781056 ≤ x * y ∧ x * y ≤ 309485009821345068724781056 := fun {x y} hx hy => by
    have h1 := bd_mul (A := 576460752303423488) (B := 536870912) hx hy
    omega
  simp only [vol, P3.det, P3.dot, P3.cross, P3.sub]
  have s1 := m3 (m2 (x := c.y - a.y) (y := d.z - a.z) (z := c.z - a.z) (u := d.y - a.y) (by omega) (by omega) (by omega) (by omega)) (y := b.x - a.x) (by omega)
  have s2 := m3 (m2 (x := c.z - a.z) (y := d.x - a.x) (z := c.x - a.x) (u := d.z - a.z) (by omega) (by omega) (by omega) (by omega)) (y := b.y - a.y) (by omega)
  have s3 := m3 (m2 (x := c.x - a.x) (y := d.y - a.y) (z := c.y - a.y) (u := d.x - a.x) (by omega) (by omega) (by omega) (by omega)) (y := b.z - a.z) (by omega)
  omega
theorem bd_fit {n : Int} (h : -10000000000000000000000000000 ≤ n ∧ n ≤ 10000000000000000000000000000) : Fit n := by
  unfold Fit M511
  omega
set_option maxHeartbeats 8000000 in
theorem parts_core (a b c d p : P3) (v0 v1 v2 v3 v4 e0 e1 e2 e3 e4 : Int)
    (he : (e0 = 0 ∧ e1 = 0 ∧ e2 = 0 ∧ e3 = 0 ∧ e4 = 0) ∨ (e0 = 7 ∧ e1 = 7) ∨ (e0 = 7 ∧ e1 = 0) ∨ (e0 = 0 ∧ e1 = 7))
    (V0 : Hid (∀ w g, w.heap[g]? = some (.cells [.int .i64 a.x, .int .i64 a.y, .int .i64 a.z, .int .i64 b.x, .int .i64 b.y, .int .i64 b.z, .int .i64 c.x, .int .i64 c.y, .int .i64 c.z, .int .i64 d.x, .int .i64 d.y, .int .i64 d.z].toArray 33 (0, 0)) → Calls Try.prog 22 #[.slice (some ⟨g, 0, none⟩) 4 4] w (Ret (.tuple #[W v0, .int .i64 e0]) w)))
    (V1 : Hid (∀ w g, w.heap[g]? = some (.cells [.int .i64 p.x, .int .i64 p.y, .int .i64 p.z, .int .i64 b.x, .int .i64 b.y, .int .i64 b.z, .int .i64 c.x, .int .i64 c.y, .int .i64 c.z, .int .i64 d.x, .int .i64 d.y, .int .i64 d.z].toArray 33 (0, 0)) → Calls Try.prog 22 #[.slice (some ⟨g, 0, none⟩) 4 4] w (Ret (.tuple #[W v1, .int .i64 e1]) w)))
    (V2 : Hid (∀ w g, w.heap[g]? = some (.cells [.int .i64 a.x, .int .i64 a.y, .int .i64 a.z, .int .i64 p.x, .int .i64 p.y, .int .i64 p.z, .int .i64 c.x, .int .i64 c.y, .int .i64 c.z, .int .i64 d.x, .int .i64 d.y, .int .i64 d.z].toArray 33 (0, 0)) → Calls Try.prog 22 #[.slice (some ⟨g, 0, none⟩) 4 4] w (Ret (.tuple #[W v2, .int .i64 e2]) w)))
    (V3 : Hid (∀ w g, w.heap[g]? = some (.cells [.int .i64 a.x, .int .i64 a.y, .int .i64 a.z, .int .i64 b.x, .int .i64 b.y, .int .i64 b.z, .int .i64 p.x, .int .i64 p.y, .int .i64 p.z, .int .i64 d.x, .int .i64 d.y, .int .i64 d.z].toArray 33 (0, 0)) → Calls Try.prog 22 #[.slice (some ⟨g, 0, none⟩) 4 4] w (Ret (.tuple #[W v3, .int .i64 e3]) w)))
    (V4 : Hid (∀ w g, w.heap[g]? = some (.cells [.int .i64 a.x, .int .i64 a.y, .int .i64 a.z, .int .i64 b.x, .int .i64 b.y, .int .i64 b.z, .int .i64 c.x, .int .i64 c.y, .int .i64 c.z, .int .i64 p.x, .int .i64 p.y, .int .i64 p.z].toArray 33 (0, 0)) → Calls Try.prog 22 #[.slice (some ⟨g, 0, none⟩) 4 4] w (Ret (.tuple #[W v4, .int .i64 e4]) w)))
    (A0 : Hid (e0 = 0 → e1 = 0 → ∀ w, Calls Try.prog 25 #[W v1, W v2] w (Ret (.tuple #[W (v1 + v2), .bool true]) w)))
    (A1 : Hid (e0 = 0 → e1 = 0 → ∀ w, Calls Try.prog 25 #[W v3, W v4] w (Ret (.tuple #[W (v3 + v4), .bool true]) w)))
    (A2 : Hid (e0 = 0 → e1 = 0 → ∀ w, Calls Try.prog 25 #[W (v1 + v2), W (v3 + v4)] w (Ret (.tuple #[W v0, .bool true]) w))) (w : World) :
    Calls Try.prog 10 #[PV a, PV b, PV c, PV d, PV p] w (Ret (.bool true) w) := by
  rcases he with ⟨rfl, rfl, rfl, rfl, rfl⟩ | ⟨rfl, rfl⟩ | ⟨rfl, rfl⟩ | ⟨rfl, rfl⟩
  · replace A0 := Lib.hid (A0.out rfl rfl)
    replace A1 := Lib.hid (A1.out rfl rfl)
    replace A2 := Lib.hid (A2.out rfl rfl)
    go_enter Try.func10, Try.ntmps10
    have hp := Hp.start [] w
    go_wp2_with (first
          | ((with_reducible apply sx_box hp); exact za rfl; exact rfl; clear hp; (try clear w1); intro g w1 hp; simp only [zp, zq, z0, z1])
          | ((with_reducible apply sx_alloc hp); infer_instance; exact rfl; clear hp; (try clear w1); intro g w1 hp; simp only [zp, zq, z0, z1])
          | ((with_reducible apply sx_load_agg hp); exact zt rfl; infer_instance; infer_instance; (first | exact zl rfl | exact LB_le (by omega)); (first | (with_reducible exact LB_set (by omega)) | (simp only [n0, Nat.reduceAdd, n1, n2, n3, n4, n5, n6, n7, n8, n9]; try rfl)); simp only [zp, zq, z0, z1])
          | ((with_reducible apply sx_store hp); exact zt rfl; exact za rfl; exact rfl; (first | exact AggTy.size | exact OneTy.size); exact rfl; infer_instance; (first | (with_reducible exact LB_set (by omega)) | (simp only [n0, Nat.reduceAdd, n1, n2, n3, n4, n5, n6, n7, n8, n9]; try rfl)); (first | exact zl rfl | exact LB_le (by omega)); exact rfl; infer_instance; clear hp; (try clear w1); intro w1 hp)
          | ((with_reducible apply sx_buildSlice hp); infer_instance; (first | exact AggTy.size | exact OneTy.size); infer_instance; exact zl rfl; decide; (first | exact (rfl : _ = numbered 0 [_]) | exact (rfl : _ = numbered 0 [_, _]) | exact (rfl : _ = numbered 0 [_, _, _]) | exact (rfl : _ = numbered 0 [_, _, _, _])); exact rfl; (first | exact (rfl : _ = List.map (fun x : List Value => x.toArray) [_]) | exact (rfl : _ = List.map (fun x : List Value => x.toArray) [_, _]) | exact (rfl : _ = List.map (fun x : List Value => x.toArray) [_, _, _]) | exact (rfl : _ = List.map (fun x : List Value => x.toArray) [_, _, _, _])); (intro l hl <;> simp only [List.mem_cons, List.not_mem_nil, or_false] at hl <;> rcases hl with rfl | rfl | rfl | rfl <;> rfl); exact rfl; clear hp; (try clear w1); intro g w1 hp; simp only [zp, zq, z0, z1])
          | ((with_reducible first | refine sx_call hp (awake7 _) ?_ | refine sx_call hp (A0.out _) ?_ | refine sx_call hp (A1.out _) ?_ | refine sx_call hp (A2.out _) ?_); clear hp; (try clear w1); intro w1 hp)
          | ((with_reducible refine sx_call hp (V0.out _ _ hp.blk) ?_); clear hp; (try clear w1); intro w1 hp)
          | ((with_reducible refine sx_call hp (V1.out _ _ hp.blk) ?_); clear hp; (try clear w1); intro w1 hp)
          | ((with_reducible refine sx_call hp (V2.out _ _ hp.blk) ?_); clear hp; (try clear w1); intro w1 hp)
          | ((with_reducible refine sx_call hp (V3.out _ _ hp.blk) ?_); clear hp; (try clear w1); intro w1 hp)
          | ((with_reducible refine sx_call hp (V4.out _ _ hp.blk) ?_); clear hp; (try clear w1); intro w1 hp)
          | ((with_reducible apply sx_strip); exact rfl)
          | ((with_reducible apply sx_unwanted); exact rfl; simp only [zp, zq, z0, z1]))
    exact bodyPost_ret (results_one rfl rfl) rfl ⟨rfl, hp.keep⟩
  · skip
    go_enter Try.func10, Try.ntmps10
    have hp := Hp.start [] w
    go_wp2_with (first
          | ((with_reducible apply sx_box hp); exact za rfl; exact rfl; clear hp; (try clear w1); intro g w1 hp; simp only [zp, zq, z0, z1])
          | ((with_reducible apply sx_alloc hp); infer_instance; exact rfl; clear hp; (try clear w1); intro g w1 hp; simp only [zp, zq, z0, z1])
          | ((with_reducible apply sx_load_agg hp); exact zt rfl; infer_instance; infer_instance; (first | exact zl rfl | exact LB_le (by omega)); (first | (with_reducible exact LB_set (by omega)) | (simp only [n0, Nat.reduceAdd, n1, n2, n3, n4, n5, n6, n7, n8, n9]; try rfl)); simp only [zp, zq, z0, z1])
          | ((with_reducible apply sx_store hp); exact zt rfl; exact za rfl; exact rfl; (first | exact AggTy.size | exact OneTy.size); exact rfl; infer_instance; (first | (with_reducible exact LB_set (by omega)) | (simp only [n0, Nat.reduceAdd, n1, n2, n3, n4, n5, n6, n7, n8, n9]; try rfl)); (first | exact zl rfl | exact LB_le (by omega)); exact rfl; infer_instance; clear hp; (try clear w1); intro w1 hp)
          | ((with_reducible apply sx_buildSlice hp); infer_instance; (first | exact AggTy.size | exact OneTy.size); infer_instance; exact zl rfl; decide; (first | exact (rfl : _ = numbered 0 [_]) | exact (rfl : _ = numbered 0 [_, _]) | exact (rfl : _ = numbered 0 [_, _, _]) | exact (rfl : _ = numbered 0 [_, _, _, _])); exact rfl; (first | exact (rfl : _ = List.map (fun x : List Value => x.toArray) [_]) | exact (rfl : _ = List.map (fun x : List Value => x.toArray) [_, _]) | exact (rfl : _ = List.map (fun x : List Value => x.toArray) [_, _, _]) | exact (rfl : _ = List.map (fun x : List Value => x.toArray) [_, _, _, _])); (intro l hl <;> simp only [List.mem_cons, List.not_mem_nil, or_false] at hl <;> rcases hl with rfl | rfl | rfl | rfl <;> rfl); exact rfl; clear hp; (try clear w1); intro g w1 hp; simp only [zp, zq, z0, z1])
          | ((with_reducible refine sx_call hp (awake7 _) ?_); clear hp; (try clear w1); intro w1 hp)
          | ((with_reducible refine sx_call hp (V0.out _ _ hp.blk) ?_); clear hp; (try clear w1); intro w1 hp)
          | ((with_reducible refine sx_call hp (V1.out _ _ hp.blk) ?_); clear hp; (try clear w1); intro w1 hp)
          | ((with_reducible refine sx_call hp (V2.out _ _ hp.blk) ?_); clear hp; (try clear w1); intro w1 hp)
          | ((with_reducible refine sx_call hp (V3.out _ _ hp.blk) ?_); clear hp; (try clear w1); intro w1 hp)
          | ((with_reducible refine sx_call hp (V4.out _ _ hp.blk) ?_); clear hp; (try clear w1); intro w1 hp)
          | ((with_reducible apply sx_strip); exact rfl)
          | ((with_reducible apply sx_unwanted); exact rfl; simp only [zp, zq, z0, z1]))
    exact bodyPost_ret (results_one rfl rfl) rfl ⟨rfl, hp.keep⟩
  · skip
    go_enter Try.func10, Try.ntmps10
    have hp := Hp.start [] w
    go_wp2_with (first
          | ((with_reducible apply sx_box hp); exact za rfl; exact rfl; clear hp; (try clear w1); intro g w1 hp; simp only [zp, zq, z0, z1])
          | ((with_reducible apply sx_alloc hp); infer_instance; exact rfl; clear hp; (try clear w1); intro g w1 hp; simp only [zp, zq, z0, z1])
          | ((with_reducible apply sx_load_agg hp); exact zt rfl; infer_instance; infer_instance; (first | exact zl rfl | exact LB_le (by omega)); (first | (with_reducible exact LB_set (by omega)) | (simp only [n0, Nat.reduceAdd, n1, n2, n3, n4, n5, n6, n7, n8, n9]; try rfl)); simp only [zp, zq, z0, z1])
          | ((with_reducible apply sx_store hp); exact zt rfl; exact za rfl; exact rfl; (first | exact AggTy.size | exact OneTy.size); exact rfl; infer_instance; (first | (with_reducible exact LB_set (by omega)) | (simp only [n0, Nat.reduceAdd, n1, n2, n3, n4, n5, n6, n7, n8, n9]; try rfl)); (first | exact zl rfl | exact LB_le (by omega)); exact rfl; infer_instance; clear hp; (try clear w1); intro w1 hp)
          | ((with_reducible apply sx_buildSlice hp); infer_instance; (first | exact AggTy.size | exact OneTy.size); infer_instance; exact zl rfl; decide; (first | exact (rfl : _ = numbered 0 [_]) | exact (rfl : _ = numbered 0 [_, _]) | exact (rfl : _ = numbered 0 [_, _, _]) | exact (rfl : _ = numbered 0 [_, _, _, _])); exact rfl; (first | exact (rfl : _ = List.map (fun x : List Value => x.toArray) [_]) | exact (rfl : _ = List.map (fun x : List Value => x.toArray) [_, _]) | exact (rfl : _ = List.map (fun x : List Value => x.toArray) [_, _, _]) | exact (rfl : _ = List.map (fun x : List Value => x.toArray) [_, _, _, _])); (intro l hl <;> simp only [List.mem_cons, List.not_mem_nil, or_false] at hl <;> rcases hl with rfl | rfl | rfl | rfl <;> rfl); exact rfl; clear hp; (try clear w1); intro g w1 hp; simp only [zp, zq, z0, z1])
          | ((with_reducible refine sx_call hp (awake7 _) ?_); clear hp; (try clear w1); intro w1 hp)
          | ((with_reducible refine sx_call hp (V0.out _ _ hp.blk) ?_); clear hp; (try clear w1); intro w1 hp)
          | ((with_reducible refine sx_call hp (V1.out _ _ hp.blk) ?_); clear hp; (try clear w1); intro w1 hp)
          | ((with_reducible refine sx_call hp (V2.out _ _ hp.blk) ?_); clear hp; (try clear w1); intro w1 hp)
          | ((with_reducible refine sx_call hp (V3.out _ _ hp.blk) ?_); clear hp; (try clear w1); intro w1 hp)
          | ((with_reducible refine sx_call hp (V4.out _ _ hp.blk) ?_); clear hp; (try clear w1); intro w1 hp)
          | ((with_reducible apply sx_strip); exact rfl)
          | ((with_reducible apply sx_unwanted); exact rfl; simp only [zp, zq, z0, z1]))
    exact bodyPost_ret (results_one rfl rfl) rfl ⟨rfl, hp.keep⟩
  · skip
    go_enter Try.func10, Try.ntmps10
    have hp := Hp.start [] w
    go_wp2_with (first
          | ((with_reducible apply sx_box hp); exact za rfl; exact rfl; clear hp; (try clear w1); intro g w1 hp; simp only [zp, zq, z0, z1])
          | ((with_reducible apply sx_alloc hp); infer_instance; exact rfl; clear hp; (try clear w1); intro g w1 hp; simp only [zp, zq, z0, z1])
          | ((with_reducible apply sx_load_agg hp); exact zt rfl; infer_instance; infer_instance; (first | exact zl rfl | exact LB_le (by omega)); (first | (with_reducible exact LB_set (by omega)) | (simp only [n0, Nat.reduceAdd, n1, n2, n3, n4, n5, n6, n7, n8, n9]; try rfl)); simp only [zp, zq, z0, z1])
          | ((with_reducible apply sx_store hp); exact zt rfl; exact za rfl; exact rfl; (first | exact AggTy.size | exact OneTy.size); exact rfl; infer_instance; (first | (with_reducible exact LB_set (by omega)) | (simp only [n0, Nat.reduceAdd, n1, n2, n3, n4, n5, n6, n7, n8, n9]; try rfl)); (first | exact zl rfl | exact LB_le (by omega)); exact rfl; infer_instance; clear hp; (try clear w1); intro w1 hp)
          | ((with_reducible apply sx_buildSlice hp); infer_instance; (first | exact AggTy.size | exact OneTy.size); infer_instance; exact zl rfl; decide; (first | exact (rfl : _ = numbered 0 [_]) | exact (rfl : _ = numbered 0 [_, _]) | exact (rfl : _ = numbered 0 [_, _, _]) | exact (rfl : _ = numbered 0 [_, _, _, _])); exact rfl; (first | exact (rfl : _ = List.map (fun x : List Value => x.toArray) [_]) | exact (rfl : _ = List.map (fun x : List Value => x.toArray) [_, _]) | exact (rfl : _ = List.map (fun x : List Value => x.toArray) [_, _, _]) | exact (rfl : _ = List.map (fun x : List Value => x.toArray) [_, _, _, _])); (intro l hl <;> simp only [List.mem_cons, List.not_mem_nil, or_false] at hl <;> rcases hl with rfl | rfl | rfl | rfl <;> rfl); exact rfl; clear hp; (try clear w1); intro g w1 hp; simp only [zp, zq, z0, z1])
          | ((with_reducible refine sx_call hp (awake7 _) ?_); clear hp; (try clear w1); intro w1 hp)
          | ((with_reducible refine sx_call hp (V0.out _ _ hp.blk) ?_); clear hp; (try clear w1); intro w1 hp)
          | ((with_reducible refine sx_call hp (V1.out _ _ hp.blk) ?_); clear hp; (try clear w1); intro w1 hp)
          | ((with_reducible refine sx_call hp (V2.out _ _ hp.blk) ?_); clear hp; (try clear w1); intro w1 hp)
          | ((with_reducible refine sx_call hp (V3.out _ _ hp.blk) ?_); clear hp; (try clear w1); intro w1 hp)
          | ((with_reducible refine sx_call hp (V4.out _ _ hp.blk) ?_); clear hp; (try clear w1); intro w1 hp)
          | ((with_reducible apply sx_strip); exact rfl)
          | ((with_reducible apply sx_unwanted); exact rfl; simp only [zp, zq, z0, z1]))
    exact bodyPost_ret (results_one rfl rfl) rfl ⟨rfl, hp.keep⟩
theorem volume_any (a b c d : P3) (w : World) (g : Nat) (h : w.heap[g]? = some (.cells [.int .i64 a.x, .int .i64 a.y, .int .i64 a.z, .int .i64 b.x, .int .i64 b.y, .int .i64 b.z, .int .i64 c.x, .int .i64 c.y, .int .i64 c.z, .int .i64 d.x, .int .i64 d.y, .int .i64 d.z].toArray 33 (0, 0))) :
    Calls Try.prog 22 #[.slice (some ⟨g, 0, none⟩) 4 4] w (Ret (.tuple #[W (if fineb [a, b, c, d] then vol [a, b, c, d] else 0), .int .i64 (if fineb [a, b, c, d] then 0 else 7)]) w) := by
  have hps : PSl w (.slice (some ⟨g, 0, none⟩) 4 4) [a, b, c, d] := .inr ⟨g, 0, 4, _, _, _, rfl, h, rfl⟩
  by_cases hf : fineb [a, b, c, d] = true
  · rw [if_pos hf, if_pos hf]
    have hfn : ∀ w1, Keep [] w w1 → Calls Try.prog 29 #[.slice (some ⟨g, 0, none⟩) 4 4] w1 (Ret (.bool true) w1) := fun w1 hk => by
      rw [← hf]
      exact fine_any (by unfold maxLen; simp) w1 (hps.keep hk)
    exact volume_yes a b c d hf w g 0 4 _ _ h (by simp) rfl rfl rfl rfl (Lib.hid hfn)
  · rw [if_neg hf, if_neg hf]
    exact volume_no [a, b, c, d] 7 false (by simpa using hf) (.inl ⟨rfl, rfl⟩) (by unfold maxLen; simp) w _ 4 4 rfl hps
theorem fineb_four {a b c d : P3} : fineb [a, b, c, d] = true ↔ a.may ∧ b.may ∧ c.may ∧ d.may := by
  simp [fineb]
theorem parts_law (a : P3) (_ : a.i64) (b : P3) (_ : b.i64) (c : P3) (_ : c.i64) (d : P3) (_ : d.i64) (p : P3) (_ : p.i64) (w : World) : Calls Try.prog 10 #[PV a, PV b, PV c, PV d, PV p] w (Ret (.bool true) w) := by
  have key : fineb [a, b, c, d] = true → fineb [p, b, c, d] = true → fineb [a, p, c, d] = true ∧ fineb [a, b, p, d] = true ∧ fineb [a, b, c, p] = true := by
    simp only [fineb_four]
    intro h1 h2
    exact ⟨⟨h1.1, h2.1, h1.2.2⟩, ⟨h1.1, h1.2.1, h2.1, h1.2.2.2⟩, ⟨h1.1, h1.2.1, h1.2.2.1, h2.1⟩⟩
  refine parts_core a b c d p _ _ _ _ _ _ _ _ _ _ ?_ (Lib.hid (volume_any a b c d)) (Lib.hid (volume_any p b c d)) (Lib.hid (volume_any a p c d)) (Lib.hid (volume_any a b p d)) (Lib.hid (volume_any a b c p)) (Lib.hid ?_) (Lib.hid ?_) (Lib.hid ?_) w
  · by_cases h0 : fineb [a, b, c, d] = true <;> by_cases h1 : fineb [p, b, c, d] = true
    · obtain ⟨h2, h3, h4⟩ := key h0 h1
      left
      rw [if_pos h0, if_pos h1, if_pos h2, if_pos h3, if_pos h4]
      simp
    · rw [if_pos h0, if_neg h1]; simp
    · rw [if_neg h0, if_pos h1]; simp
    · rw [if_neg h0, if_neg h1]; simp
  all_goals
    intro h0 h1 w
    have h0 : fineb [a, b, c, d] = true := by
      by_cases h : fineb [a, b, c, d] = true
      · exact h
      · rw [if_neg h] at h0; cases h0
    have h1 : fineb [p, b, c, d] = true := by
      by_cases h : fineb [p, b, c, d] = true
      · exact h
      · rw [if_neg h] at h1; cases h1
    obtain ⟨h2, h3, h4⟩ := key h0 h1
    have b0 := vol_bd h0
    have b1 := vol_bd h1
    have b2 := vol_bd h2
    have b3 := vol_bd h3
    have b4 := vol_bd h4
    have hs := vol_parts a b c d p
    simp only [if_pos h0, if_pos h1, if_pos h2, if_pos h3, if_pos h4]
  · exact add_ok (bd_fit (by omega)) (bd_fit (by omega)) (bd_fit (by omega)) w
  · exact add_ok (bd_fit (by omega)) (bd_fit (by omega)) (bd_fit (by omega)) w
  · rw [← hs]
    exact add_ok (bd_fit (by omega)) (bd_fit (by omega)) (bd_fit (by omega)) w
end Go.Proofs.Ythnpmmpcejfllaa
