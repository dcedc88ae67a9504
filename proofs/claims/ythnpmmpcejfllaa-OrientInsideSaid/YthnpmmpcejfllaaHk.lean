/-
  Package orient: Inside (contract).
-/
import Derived.Test.YthnpmmpcejfllaaHj
set_option linter.unusedSimpArgs false
set_option linter.unusedVariables false
set_option maxRecDepth 100000
namespace Go.Proofs.Ythnpmmpcejfllaa
open Go Go.RowKit

/-- Is p in the simplex of those points? -/
def insideb (ps : List P3) (p : P3) : Bool := match ps with
  | [a] => decide (p = a)
  | [a, b] => betweenb a b p
  | [a, b, c] => withinb a b c p
  | [a, b, c, d] => deepb a b c d p
  | _ => false
/-- What Inside hands back. -/
def insideO (ps : List P3) (p : P3) : Bool × Int := if fineb ps = false ∨ ¬ p.may then (false, 7) else if simplexb ps = false then (false, 8) else (insideb ps p, 0)

theorem p3_eq (p a : P3) : (p.x == a.x && (p.y == a.y && p.z == a.z)) = decide (p = a) := by
  obtain ⟨px, py, pz⟩ := p
  obtain ⟨ax, ay, az⟩ := a
  rw [Bool.eq_iff_iff]
  simp
set_option maxHeartbeats 2000000 in
theorem inside_no (ps : List P3) (p : P3) (e : Int) (x y s : Bool) (hx : fineb ps = x) (hy : fineb [p] = y) (hs : simplexb ps = s) (he : (x = false ∧ e = 7) ∨ (x = true ∧ y = false ∧ e = 7) ∨ (x = true ∧ y = true ∧ s = false ∧ e = 8)) (hlen : ps.length ≤ maxLen) (w : World) (v : Value) (h : PSl w v ps) :
    Calls Try.prog 17 #[v, PV p] w (Ret (.tuple #[.bool false, .int .i64 e]) w) := by
  have hfn : ∀ w1, Keep [] w w1 → Calls Try.prog 29 #[v] w1 (Ret (.bool x) w1) := fun w1 hk => by
    rw [← hx]
    exact fine_any hlen w1 (h.keep hk)
  have hsx : ∀ w1, Keep [] w w1 → Calls Try.prog 30 #[v] w1 (Ret (.bool s) w1) := fun w1 hk => by
    rw [← hs]
    exact simplex_any hlen w1 (h.keep hk)
  have hone : ∀ w1 g, w1.heap[g]? = some (.cells [.int .i64 p.x, .int .i64 p.y, .int .i64 p.z].toArray 33 (0, 0)) → Calls Try.prog 29 #[.slice (some ⟨g, 0, none⟩) 1 1] w1 (Ret (.bool y) w1) := fun w1 g h => by
    rw [← hy]
    exact fine_one p w1 g h
  have Hfn := Lib.hid hfn
  have Hsx := Lib.hid hsx
  have Hone := Lib.hid hone
  clear hfn hsx hone h hx hy hs hlen
  rcases he with ⟨rfl, rfl⟩ | ⟨rfl, rfl, rfl⟩ | ⟨rfl, rfl, rfl, rfl⟩
  · skip
    go_enter Try.func17, Try.ntmps17
    have hp := Hp.start [] w
    go_wp2_with (first
          | ((with_reducible apply sx_box hp); exact za rfl; exact rfl; clear hp; (try clear w1); intro g w1 hp; simp only [zp, zq, z0, z1])
          | ((with_reducible apply sx_load_agg hp); exact zt rfl; infer_instance; infer_instance; (first | exact zl rfl | exact LB_le (by omega)); (first | (with_reducible exact LB_set (by omega)) | (simp only [n0, Nat.reduceAdd, n1, n2, n3, n4, n5, n6, n7, n8, n9]; try rfl)); simp only [zp, zq, z0, z1])
          | ((with_reducible apply sx_indexAddr); exact zx rfl; exact zk rfl; infer_instance; (first | exact AggTy.size | exact OneTy.size); omega; omega; ((try simp only [m0, Int.reduceToNat, m1, m2, Nat.reduceMul, Nat.reduceAdd, m3, m4, m5, n0]); exact rfl); simp only [zp, zq, z0, z1])
          | ((with_reducible apply sx_load_far hp); exact zt rfl; assumption; infer_instance; assumption; (first | exact zl rfl | omega); simp only [zp, zq, z0, z1])
          | ((with_reducible apply sx_buildSlice hp); infer_instance; (first | exact AggTy.size | exact OneTy.size); infer_instance; exact zl rfl; decide; (first | exact (rfl : _ = numbered 0 [_]) | exact (rfl : _ = numbered 0 [_, _]) | exact (rfl : _ = numbered 0 [_, _, _]) | exact (rfl : _ = numbered 0 [_, _, _, _])); exact rfl; (first | exact (rfl : _ = List.map (fun x : List Value => x.toArray) [_]) | exact (rfl : _ = List.map (fun x : List Value => x.toArray) [_, _]) | exact (rfl : _ = List.map (fun x : List Value => x.toArray) [_, _, _]) | exact (rfl : _ = List.map (fun x : List Value => x.toArray) [_, _, _, _])); (intro l hl <;> simp only [List.mem_cons, List.not_mem_nil, or_false] at hl <;> rcases hl with rfl | rfl | rfl | rfl <;> rfl); exact rfl; clear hp; (try clear w1); intro g w1 hp; simp only [zp, zq, z0, z1])
          | ((with_reducible apply sx_strip); exact rfl)
          | ((with_reducible apply sx_unwanted); exact rfl; simp only [zp, zq, z0, z1])
          | ((with_reducible refine sx_call hp (Hfn.out _ hp.keep) ?_); clear hp; (try clear w1); intro w1 hp))
    exact bodyPost_ret (results_two rfl rfl rfl) rfl ⟨rfl, hp.keep⟩
  · skip
    go_enter Try.func17, Try.ntmps17
    have hp := Hp.start [] w
    go_wp2_with (first
          | ((with_reducible apply sx_box hp); exact za rfl; exact rfl; clear hp; (try clear w1); intro g w1 hp; simp only [zp, zq, z0, z1])
          | ((with_reducible apply sx_load_agg hp); exact zt rfl; infer_instance; infer_instance; (first | exact zl rfl | exact LB_le (by omega)); (first | (with_reducible exact LB_set (by omega)) | (simp only [n0, Nat.reduceAdd, n1, n2, n3, n4, n5, n6, n7, n8, n9]; try rfl)); simp only [zp, zq, z0, z1])
          | ((with_reducible apply sx_indexAddr); exact zx rfl; exact zk rfl; infer_instance; (first | exact AggTy.size | exact OneTy.size); omega; omega; ((try simp only [m0, Int.reduceToNat, m1, m2, Nat.reduceMul, Nat.reduceAdd, m3, m4, m5, n0]); exact rfl); simp only [zp, zq, z0, z1])
          | ((with_reducible apply sx_load_far hp); exact zt rfl; assumption; infer_instance; assumption; (first | exact zl rfl | omega); simp only [zp, zq, z0, z1])
          | ((with_reducible apply sx_buildSlice hp); infer_instance; (first | exact AggTy.size | exact OneTy.size); infer_instance; exact zl rfl; decide; (first | exact (rfl : _ = numbered 0 [_]) | exact (rfl : _ = numbered 0 [_, _]) | exact (rfl : _ = numbered 0 [_, _, _]) | exact (rfl : _ = numbered 0 [_, _, _, _])); exact rfl; (first | exact (rfl : _ = List.map (fun x : List Value => x.toArray) [_]) | exact (rfl : _ = List.map (fun x : List Value => x.toArray) [_, _]) | exact (rfl : _ = List.map (fun x : List Value => x.toArray) [_, _, _]) | exact (rfl : _ = List.map (fun x : List Value => x.toArray) [_, _, _, _])); (intro l hl <;> simp only [List.mem_cons, List.not_mem_nil, or_false] at hl <;> rcases hl with rfl | rfl | rfl | rfl <;> rfl); exact rfl; clear hp; (try clear w1); intro g w1 hp; simp only [zp, zq, z0, z1])
          | ((with_reducible apply sx_strip); exact rfl)
          | ((with_reducible apply sx_unwanted); exact rfl; simp only [zp, zq, z0, z1])
          | ((with_reducible refine sx_call hp (Hfn.out _ hp.keep) ?_); clear hp; (try clear w1); intro w1 hp)
          | ((with_reducible refine sx_call hp (Hone.out _ _ hp.blk) ?_); clear hp; (try clear w1); intro w1 hp))
    exact bodyPost_ret (results_two rfl rfl rfl) rfl ⟨rfl, hp.keep⟩
  · skip
    go_enter Try.func17, Try.ntmps17
    have hp := Hp.start [] w
    go_wp2_with (first
          | ((with_reducible apply sx_box hp); exact za rfl; exact rfl; clear hp; (try clear w1); intro g w1 hp; simp only [zp, zq, z0, z1])
          | ((with_reducible apply sx_load_agg hp); exact zt rfl; infer_instance; infer_instance; (first | exact zl rfl | exact LB_le (by omega)); (first | (with_reducible exact LB_set (by omega)) | (simp only [n0, Nat.reduceAdd, n1, n2, n3, n4, n5, n6, n7, n8, n9]; try rfl)); simp only [zp, zq, z0, z1])
          | ((with_reducible apply sx_indexAddr); exact zx rfl; exact zk rfl; infer_instance; (first | exact AggTy.size | exact OneTy.size); omega; omega; ((try simp only [m0, Int.reduceToNat, m1, m2, Nat.reduceMul, Nat.reduceAdd, m3, m4, m5, n0]); exact rfl); simp only [zp, zq, z0, z1])
          | ((with_reducible apply sx_load_far hp); exact zt rfl; assumption; infer_instance; assumption; (first | exact zl rfl | omega); simp only [zp, zq, z0, z1])
          | ((with_reducible apply sx_buildSlice hp); infer_instance; (first | exact AggTy.size | exact OneTy.size); infer_instance; exact zl rfl; decide; (first | exact (rfl : _ = numbered 0 [_]) | exact (rfl : _ = numbered 0 [_, _]) | exact (rfl : _ = numbered 0 [_, _, _]) | exact (rfl : _ = numbered 0 [_, _, _, _])); exact rfl; (first | exact (rfl : _ = List.map (fun x : List Value => x.toArray) [_]) | exact (rfl : _ = List.map (fun x : List Value => x.toArray) [_, _]) | exact (rfl : _ = List.map (fun x : List Value => x.toArray) [_, _, _]) | exact (rfl : _ = List.map (fun x : List Value => x.toArray) [_, _, _, _])); (intro l hl <;> simp only [List.mem_cons, List.not_mem_nil, or_false] at hl <;> rcases hl with rfl | rfl | rfl | rfl <;> rfl); exact rfl; clear hp; (try clear w1); intro g w1 hp; simp only [zp, zq, z0, z1])
          | ((with_reducible apply sx_strip); exact rfl)
          | ((with_reducible apply sx_unwanted); exact rfl; simp only [zp, zq, z0, z1])
          | ((with_reducible refine sx_call hp (Hfn.out _ hp.keep) ?_); clear hp; (try clear w1); intro w1 hp)
          | ((with_reducible refine sx_call hp (Hone.out _ _ hp.blk) ?_); clear hp; (try clear w1); intro w1 hp)
          | ((with_reducible refine sx_call hp (Hsx.out _ hp.keep) ?_); clear hp; (try clear w1); intro w1 hp))
    exact bodyPost_ret (results_two rfl rfl rfl) rfl ⟨rfl, hp.keep⟩

section
variable (p : P3) (w : World) (g0 off cap : Nat) (bc : List Value) (t : TypeId) {z : Nat × Nat}
set_option maxHeartbeats 2000000 in
theorem inside_yes1 (a : P3) (hbk : w.heap[g0]? = some (.cells bc.toArray t z)) (hl : off + 3 ≤ bc.length) (h0 : (bc.drop off).take 3 = [.int .i64 a.x, .int .i64 a.y, .int .i64 a.z])
    (Hfn : Hid (∀ w1, Keep [] w w1 → Calls Try.prog 29 #[.slice (some ⟨g0, off, none⟩) 1 cap] w1 (Ret (.bool true) w1)))
    (Hsx : Hid (∀ w1, Keep [] w w1 → Calls Try.prog 30 #[.slice (some ⟨g0, off, none⟩) 1 cap] w1 (Ret (.bool true) w1)))
    (Hone : Hid (∀ w1 g, w1.heap[g]? = some (.cells [.int .i64 p.x, .int .i64 p.y, .int .i64 p.z].toArray 33 (0, 0)) → Calls Try.prog 29 #[.slice (some ⟨g, 0, none⟩) 1 1] w1 (Ret (.bool true) w1))) :
    Calls Try.prog 17 #[.slice (some ⟨g0, off, none⟩) 1 cap, PV p] w (Ret (.tuple #[.bool (decide (p = a)), .int .i64 0]) w) := by
  go_enter Try.func17, Try.ntmps17
  have hp := Hp.start [] w
  go_wp2_with (first
          | ((with_reducible apply sx_box hp); exact za rfl; exact rfl; clear hp; (try clear w1); intro g w1 hp; simp only [zp, zq, z0, z1])
          | ((with_reducible apply sx_load_agg hp); exact zt rfl; infer_instance; infer_instance; (first | exact zl rfl | exact LB_le (by omega)); (first | (with_reducible exact LB_set (by omega)) | (simp only [n0, Nat.reduceAdd, n1, n2, n3, n4, n5, n6, n7, n8, n9]; try rfl)); simp only [zp, zq, z0, z1])
          | ((with_reducible apply sx_indexAddr); exact zx rfl; exact zk rfl; infer_instance; (first | exact AggTy.size | exact OneTy.size); omega; omega; ((try simp only [m0, Int.reduceToNat, m1, m2, Nat.reduceMul, Nat.reduceAdd, m3, m4, m5, n0]); exact rfl); simp only [zp, zq, z0, z1])
          | ((with_reducible apply sx_load_far hp); exact zt rfl; assumption; infer_instance; assumption; (first | exact zl rfl | omega); simp only [zp, zq, z0, z1])
          | ((with_reducible apply sx_buildSlice hp); infer_instance; (first | exact AggTy.size | exact OneTy.size); infer_instance; exact zl rfl; decide; (first | exact (rfl : _ = numbered 0 [_]) | exact (rfl : _ = numbered 0 [_, _]) | exact (rfl : _ = numbered 0 [_, _, _]) | exact (rfl : _ = numbered 0 [_, _, _, _])); exact rfl; (first | exact (rfl : _ = List.map (fun x : List Value => x.toArray) [_]) | exact (rfl : _ = List.map (fun x : List Value => x.toArray) [_, _]) | exact (rfl : _ = List.map (fun x : List Value => x.toArray) [_, _, _]) | exact (rfl : _ = List.map (fun x : List Value => x.toArray) [_, _, _, _])); (intro l hl <;> simp only [List.mem_cons, List.not_mem_nil, or_false] at hl <;> rcases hl with rfl | rfl | rfl | rfl <;> rfl); exact rfl; clear hp; (try clear w1); intro g w1 hp; simp only [zp, zq, z0, z1])
          | ((with_reducible apply sx_strip); exact rfl)
          | ((with_reducible apply sx_unwanted); exact rfl; simp only [zp, zq, z0, z1])
          | ((with_reducible refine sx_call hp (Hfn.out _ hp.keep) ?_); clear hp; (try clear w1); intro w1 hp)
          | ((with_reducible refine sx_call hp (Hone.out _ _ hp.blk) ?_); clear hp; (try clear w1); intro w1 hp)
          | ((with_reducible refine sx_call hp (Hsx.out _ hp.keep) ?_); clear hp; (try clear w1); intro w1 hp))
  have hq := hp
  refine wp_drawn_hp hp hq [] (.q 0 (.q 1 (.q 2 (.q 3 (.q 4 (.q 5 (.q 6 .nil))))))) (by kernel_rfl) (by kernel_rfl) ?_
  clear hp hq; (try clear w1); intro w1 hp hq
  repeat' (first
    | (((with_reducible apply sd_q); exact zo rfl); (first
        | ((with_reducible apply sd_load_agg hp); exact rfl; exact zt rfl; infer_instance; infer_instance; (first | exact zl rfl | exact LB_le (by omega)); (first | (with_reducible exact LB_set (by omega)) | (simp only [n0, Nat.reduceAdd, n1, n2, n3, n4, n5, n6, n7, n8, n9]; try rfl)); simp only [zp, zq, z0, z1])
        | ((with_reducible apply sd_load_far hp); exact rfl; exact zt rfl; assumption; infer_instance; assumption; (first | exact zl rfl | omega); simp only [zp, zq, z0, z1])
        | ((with_reducible apply sd_move hp); exact zs rfl; simp only [zp, zq, z0, z1])
        | ((with_reducible apply sd_assign hp); (first | exact zb rfl | exact zi rfl); simp only [zp, zq, z0, z1])
        | ((with_reducible apply sd_indexAddr hp); exact rfl; exact zx rfl; exact zk rfl; infer_instance; (first | exact AggTy.size | exact OneTy.size); omega; omega; ((try simp only [m0, Int.reduceToNat, m1, m2, Nat.reduceMul, Nat.reduceAdd, m3, m4, m5, n0]); exact rfl); simp only [zp, zq, z0, z1])
        | ((with_reducible apply sd_pure hp); exact rfl; (focus (intro _; go_simp; (try go_ints); try with_reducible rfl)); simp only [zp, zq, z0, z1])))
    | ((with_reducible apply sd_nil); clear hp; have hp := hq; clear hq))
  go_wp2
  rw [← p3_eq]
  exact bodyPost_ret (results_two rfl rfl rfl) rfl ⟨rfl, hp.keep⟩
set_option maxHeartbeats 2000000 in
theorem inside_yes2 (a b : P3) (hbk : w.heap[g0]? = some (.cells bc.toArray t z)) (hl : off + 6 ≤ bc.length) (h0 : (bc.drop off).take 3 = [.int .i64 a.x, .int .i64 a.y, .int .i64 a.z]) (h1 : (bc.drop (off + 3)).take 3 = [.int .i64 b.x, .int .i64 b.y, .int .i64 b.z]) (r : Bool)
    (Hb : Hid (∀ w1, Calls Try.prog 31 #[PV a, PV b, PV p] w1 (Ret (.bool r) w1)))
    (Hfn : Hid (∀ w1, Keep [] w w1 → Calls Try.prog 29 #[.slice (some ⟨g0, off, none⟩) 2 cap] w1 (Ret (.bool true) w1)))
    (Hsx : Hid (∀ w1, Keep [] w w1 → Calls Try.prog 30 #[.slice (some ⟨g0, off, none⟩) 2 cap] w1 (Ret (.bool true) w1)))
    (Hone : Hid (∀ w1 g, w1.heap[g]? = some (.cells [.int .i64 p.x, .int .i64 p.y, .int .i64 p.z].toArray 33 (0, 0)) → Calls Try.prog 29 #[.slice (some ⟨g, 0, none⟩) 1 1] w1 (Ret (.bool true) w1))) :
    Calls Try.prog 17 #[.slice (some ⟨g0, off, none⟩) 2 cap, PV p] w (Ret (.tuple #[.bool r, .int .i64 0]) w) := by
  go_enter Try.func17, Try.ntmps17
  have hp := Hp.start [] w
  go_wp2_with (first
          | ((with_reducible apply sx_box hp); exact za rfl; exact rfl; clear hp; (try clear w1); intro g w1 hp; simp only [zp, zq, z0, z1])
          | ((with_reducible apply sx_load_agg hp); exact zt rfl; infer_instance; infer_instance; (first | exact zl rfl | exact LB_le (by omega)); (first | (with_reducible exact LB_set (by omega)) | (simp only [n0, Nat.reduceAdd, n1, n2, n3, n4, n5, n6, n7, n8, n9]; try rfl)); simp only [zp, zq, z0, z1])
          | ((with_reducible apply sx_indexAddr); exact zx rfl; exact zk rfl; infer_instance; (first | exact AggTy.size | exact OneTy.size); omega; omega; ((try simp only [m0, Int.reduceToNat, m1, m2, Nat.reduceMul, Nat.reduceAdd, m3, m4, m5, n0]); exact rfl); simp only [zp, zq, z0, z1])
          | ((with_reducible apply sx_load_far hp); exact zt rfl; assumption; infer_instance; assumption; (first | exact zl rfl | omega); simp only [zp, zq, z0, z1])
          | ((with_reducible apply sx_buildSlice hp); infer_instance; (first | exact AggTy.size | exact OneTy.size); infer_instance; exact zl rfl; decide; (first | exact (rfl : _ = numbered 0 [_]) | exact (rfl : _ = numbered 0 [_, _]) | exact (rfl : _ = numbered 0 [_, _, _]) | exact (rfl : _ = numbered 0 [_, _, _, _])); exact rfl; (first | exact (rfl : _ = List.map (fun x : List Value => x.toArray) [_]) | exact (rfl : _ = List.map (fun x : List Value => x.toArray) [_, _]) | exact (rfl : _ = List.map (fun x : List Value => x.toArray) [_, _, _]) | exact (rfl : _ = List.map (fun x : List Value => x.toArray) [_, _, _, _])); (intro l hl <;> simp only [List.mem_cons, List.not_mem_nil, or_false] at hl <;> rcases hl with rfl | rfl | rfl | rfl <;> rfl); exact rfl; clear hp; (try clear w1); intro g w1 hp; simp only [zp, zq, z0, z1])
          | ((with_reducible apply sx_strip); exact rfl)
          | ((with_reducible apply sx_unwanted); exact rfl; simp only [zp, zq, z0, z1])
          | ((with_reducible refine sx_call hp (Hfn.out _ hp.keep) ?_); clear hp; (try clear w1); intro w1 hp)
          | ((with_reducible refine sx_call hp (Hone.out _ _ hp.blk) ?_); clear hp; (try clear w1); intro w1 hp)
          | ((with_reducible refine sx_call hp (Hsx.out _ hp.keep) ?_); clear hp; (try clear w1); intro w1 hp))
  have hq := hp
  refine wp_drawn_hp hp hq [] (.q 0 (.q 1 (.q 2 (.q 3 (.q 4 (.q 5 (.q 6 (.l 7 (.q 8 (.q 9 .nil)))))))))) (by kernel_rfl) (by kernel_rfl) ?_
  clear hp hq; (try clear w1); intro w1 hp hq
  repeat' (first
    | (((with_reducible apply sd_q); exact zo rfl); (first
        | ((with_reducible apply sd_load_agg hp); exact rfl; exact zt rfl; infer_instance; infer_instance; (first | exact zl rfl | exact LB_le (by omega)); (first | (with_reducible exact LB_set (by omega)) | (simp only [n0, Nat.reduceAdd, n1, n2, n3, n4, n5, n6, n7, n8, n9]; try rfl)); simp only [zp, zq, z0, z1])
        | ((with_reducible apply sd_load_far hp); exact rfl; exact zt rfl; assumption; infer_instance; assumption; (first | exact zl rfl | omega); simp only [zp, zq, z0, z1])
        | ((with_reducible apply sd_move hp); exact zs rfl; simp only [zp, zq, z0, z1])
        | ((with_reducible apply sd_assign hp); (first | exact zb rfl | exact zi rfl); simp only [zp, zq, z0, z1])
        | ((with_reducible apply sd_indexAddr hp); exact rfl; exact zx rfl; exact zk rfl; infer_instance; (first | exact AggTy.size | exact OneTy.size); omega; omega; ((try simp only [m0, Int.reduceToNat, m1, m2, Nat.reduceMul, Nat.reduceAdd, m3, m4, m5, n0]); exact rfl); simp only [zp, zq, z0, z1])
        | ((with_reducible apply sd_pure hp); exact rfl; (focus (intro _; go_simp; (try go_ints); try with_reducible rfl)); simp only [zp, zq, z0, z1])))
    | (((with_reducible apply sd_l); exact zo rfl); ((with_reducible apply sd_call hp); exact rfl; (focus (intro _; go_simp; try first | with_reducible rfl | exact ⟨rfl, rfl⟩)); (with_reducible exact fun w => Hb.out w); exact hq; clear hp hq; (try clear w1); intro w1 hp hq; simp only [zp, zq, z0, z1]))
    | ((with_reducible apply sd_nil); clear hp; have hp := hq; clear hq))
  go_wp2
  exact bodyPost_ret (results_two rfl rfl rfl) rfl ⟨rfl, hp.keep⟩
set_option maxHeartbeats 2000000 in
theorem inside_yes4 (r : Bool)
    (Hb : Hid (∀ w1, Keep [] w w1 → Calls Try.prog 33 #[.slice (some ⟨g0, off, none⟩) 4 cap, PV p] w1 (Ret (.bool r) w1)))
    (Hfn : Hid (∀ w1, Keep [] w w1 → Calls Try.prog 29 #[.slice (some ⟨g0, off, none⟩) 4 cap] w1 (Ret (.bool true) w1)))
    (Hsx : Hid (∀ w1, Keep [] w w1 → Calls Try.prog 30 #[.slice (some ⟨g0, off, none⟩) 4 cap] w1 (Ret (.bool true) w1)))
    (Hone : Hid (∀ w1 g, w1.heap[g]? = some (.cells [.int .i64 p.x, .int .i64 p.y, .int .i64 p.z].toArray 33 (0, 0)) → Calls Try.prog 29 #[.slice (some ⟨g, 0, none⟩) 1 1] w1 (Ret (.bool true) w1))) :
    Calls Try.prog 17 #[.slice (some ⟨g0, off, none⟩) 4 cap, PV p] w (Ret (.tuple #[.bool r, .int .i64 0]) w) := by
  go_enter Try.func17, Try.ntmps17
  have hp := Hp.start [] w
  go_wp2_with (first
          | ((with_reducible apply sx_box hp); exact za rfl; exact rfl; clear hp; (try clear w1); intro g w1 hp; simp only [zp, zq, z0, z1])
          | ((with_reducible apply sx_load_agg hp); exact zt rfl; infer_instance; infer_instance; (first | exact zl rfl | exact LB_le (by omega)); (first | (with_reducible exact LB_set (by omega)) | (simp only [n0, Nat.reduceAdd, n1, n2, n3, n4, n5, n6, n7, n8, n9]; try rfl)); simp only [zp, zq, z0, z1])
          | ((with_reducible apply sx_indexAddr); exact zx rfl; exact zk rfl; infer_instance; (first | exact AggTy.size | exact OneTy.size); omega; omega; ((try simp only [m0, Int.reduceToNat, m1, m2, Nat.reduceMul, Nat.reduceAdd, m3, m4, m5, n0]); exact rfl); simp only [zp, zq, z0, z1])
          | ((with_reducible apply sx_load_far hp); exact zt rfl; assumption; infer_instance; assumption; (first | exact zl rfl | omega); simp only [zp, zq, z0, z1])
          | ((with_reducible apply sx_buildSlice hp); infer_instance; (first | exact AggTy.size | exact OneTy.size); infer_instance; exact zl rfl; decide; (first | exact (rfl : _ = numbered 0 [_]) | exact (rfl : _ = numbered 0 [_, _]) | exact (rfl : _ = numbered 0 [_, _, _]) | exact (rfl : _ = numbered 0 [_, _, _, _])); exact rfl; (first | exact (rfl : _ = List.map (fun x : List Value => x.toArray) [_]) | exact (rfl : _ = List.map (fun x : List Value => x.toArray) [_, _]) | exact (rfl : _ = List.map (fun x : List Value => x.toArray) [_, _, _]) | exact (rfl : _ = List.map (fun x : List Value => x.toArray) [_, _, _, _])); (intro l hl <;> simp only [List.mem_cons, List.not_mem_nil, or_false] at hl <;> rcases hl with rfl | rfl | rfl | rfl <;> rfl); exact rfl; clear hp; (try clear w1); intro g w1 hp; simp only [zp, zq, z0, z1])
          | ((with_reducible apply sx_strip); exact rfl)
          | ((with_reducible apply sx_unwanted); exact rfl; simp only [zp, zq, z0, z1])
          | ((with_reducible refine sx_call hp (Hfn.out _ hp.keep) ?_); clear hp; (try clear w1); intro w1 hp)
          | ((with_reducible refine sx_call hp (Hone.out _ _ hp.blk) ?_); clear hp; (try clear w1); intro w1 hp)
          | ((with_reducible refine sx_call hp (Hsx.out _ hp.keep) ?_); clear hp; (try clear w1); intro w1 hp)
          | ((with_reducible refine sx_call hp (Hb.out _ hp.keep) ?_); clear hp; (try clear w1); intro w1 hp))
  exact bodyPost_ret (results_two rfl rfl rfl) rfl ⟨rfl, hp.keep⟩
end
theorem simplexb_len {ps : List P3} (h : simplexb ps = true) : 1 ≤ ps.length ∧ ps.length ≤ 4 := by
  unfold simplexb at h
  simp only [decide_eq_true_eq] at h
  exact ⟨h.1, h.2.1⟩
theorem fine1 (p : P3) : fineb [p] = decide p.may := by simp [fineb]
theorem one_to_four {ps : List P3} (h1 : 1 ≤ ps.length) (h4 : ps.length ≤ 4) : (∃ a, ps = [a]) ∨ (∃ a b, ps = [a, b]) ∨ (∃ a b c, ps = [a, b, c]) ∨ (∃ a b c d, ps = [a, b, c, d]) := by
  match ps, h1, h4 with
  | [a], _, _ => exact .inl ⟨a, rfl⟩
  | [a, b], _, _ => exact .inr (.inl ⟨a, b, rfl⟩)
  | [a, b, c], _, _ => exact .inr (.inr (.inl ⟨a, b, c, rfl⟩))
  | [a, b, c, d], _, _ => exact .inr (.inr (.inr ⟨a, b, c, d, rfl⟩))
  | _ :: _ :: _ :: _ :: _ :: _, _, h4 => simp at h4
theorem inside_any (ps : List P3) (p : P3) (v : Value) (hlen : ps.length ≤ maxLen) (w : World) (h : PSl w v ps) : Calls Try.prog 17 #[v, PV p] w (Ret (.tuple #[.bool (insideO ps p).1, .int .i64 (insideO ps p).2]) w) := by
  unfold insideO
  by_cases hf : fineb ps = true
  · by_cases hm : p.may
    · rw [if_neg (by simp [hf, hm])]
      by_cases hs : simplexb ps = true
      · rw [if_neg (by simp [hs])]
        have hfn : ∀ w1, Keep [] w w1 → Calls Try.prog 29 #[v] w1 (Ret (.bool true) w1) := fun w1 hk => by
          rw [← hf]
          exact fine_any hlen w1 (h.keep hk)
        have hsx : ∀ w1, Keep [] w w1 → Calls Try.prog 30 #[v] w1 (Ret (.bool true) w1) := fun w1 hk => by
          rw [← hs]
          exact simplex_any hlen w1 (h.keep hk)
        have hone : ∀ w1 g, w1.heap[g]? = some (.cells [.int .i64 p.x, .int .i64 p.y, .int .i64 p.z].toArray 33 (0, 0)) → Calls Try.prog 29 #[.slice (some ⟨g, 0, none⟩) 1 1] w1 (Ret (.bool true) w1) := fun w1 g h => by
          have := fine_one p w1 g h
          rwa [show fineb [p] = true by simp [fineb, hm]] at this
        obtain ⟨h1, h4⟩ := simplexb_len hs
        have hmem := fun q hq => fineb_mem hf (p := q) hq
        rcases h with ⟨rfl, rfl⟩ | ⟨g0, off, cap, bc, t, z, rfl, hbk, hv⟩
        · simp at h1
        · have hroom := pcs_room hv
          have hat := fun (k : Nat) (q : P3) (hk : ps[k]? = some q) => pcs_at hv hk
          have hfar : ∀ {w1}, Keep [] w w1 → w1.heap[g0]? = some (.cells bc.toArray t z) := fun {w1} hk => by
            have hlt : g0 < w.heap.size := by
              rcases Nat.lt_or_ge g0 w.heap.size with h' | h'
              · exact h'
              · rw [Array.getElem?_eq_none h'] at hbk; cases hbk
            exact (hk.block g0 hlt (by simp)).trans hbk
          obtain ⟨a, rfl⟩ | ⟨a, b, rfl⟩ | ⟨a, b, c, rfl⟩ | ⟨a, b, c, d, rfl⟩ := one_to_four h1 h4
          · exact inside_yes1 p w g0 off cap bc t a hbk (by simpa using hroom) (hat 0 a rfl) (Lib.hid hfn) (Lib.hid hsx) (Lib.hid hone)
          · exact inside_yes2 p w g0 off cap bc t a b hbk (by simpa using hroom) (hat 0 a rfl) (hat 1 b rfl) _ (Lib.hid (between_any a b p (hmem a (by simp)) (hmem b (by simp)) hm _ (Lib.hid rfl))) (Lib.hid hfn) (Lib.hid hsx) (Lib.hid hone)
          · exact inside3 a b c p hf hm hs w g0 off cap bc t hbk hv
          · exact inside_yes4 p w g0 off cap _ (Lib.hid fun w1 hk => deep_any a b c d p (hmem a (by simp)) (hmem b (by simp)) (hmem c (by simp)) (hmem d (by simp)) hm _ (Lib.hid rfl) w1 g0 off cap bc t (hfar hk) (by simpa using hroom) (hat 0 a rfl) (hat 1 b rfl) (hat 2 c rfl) (hat 3 d rfl)) (Lib.hid hfn) (Lib.hid hsx) (Lib.hid hone)
      · have hs' : simplexb ps = false := by simpa using hs
        rw [if_pos hs']
        exact inside_no ps p 8 true true false hf (by simp [fine1, hm]) hs' (.inr (.inr ⟨rfl, rfl, rfl, rfl⟩)) hlen w v h
    · rw [if_pos (.inr hm)]
      exact inside_no ps p 7 true false _ hf (by simp [fine1, hm]) rfl (.inr (.inl ⟨rfl, rfl, rfl⟩)) hlen w v h
  · have hf' : fineb ps = false := by simpa using hf
    rw [if_pos (.inl hf')]
    exact inside_no ps p 7 false _ _ hf' rfl rfl (.inl ⟨rfl, rfl⟩) hlen w v h
end Go.Proofs.Ythnpmmpcejfllaa
