/-
  ninepinlaw07.OrientMoved (contract).
-/
import Derived.Test.YthnpmmpcejfllaaLm
import Derived.Test.YthnpmmpcejfllaaHv
import Derived.Test.YthnpmmpcejfllaaLs
import Derived.Test.YthnpmmpcejfllaaSd
set_option linter.unusedSimpArgs false
set_option linter.unusedVariables false
set_option maxRecDepth 100000
namespace Go.Proofs.Ythnpmmpcejfllaa
open Go Go.RowKit

theorem small_may {a b : P3} (ha : a.small) (hb : b.small) : a.may ∧ (a.add b).may ∧ (a.add b).i64 := by
  unfold P3.small at ha hb
  unfold P3.may may P3.i64 P3.add I64
  dsimp only
  omega
/-- Memory between two rounds: the first k points, moved. -/
def MvL (w : World) (H : List Bk) (ms : List P3) (tv : Value) (wr : World) : Prop :=
  (ms = [] ∧ tv = .slice none 0 0 ∧ Hp [] w H wr) ∨
  ∃ ga ca ja, tv = .slice (some ⟨ga, 0, none⟩) ms.length ca ∧ (pcs ms ++ ja).length = ca * 3 ∧ ms.length ≤ ca ∧ ca ≤ maxLen ∧ Hp [] w (⟨ga, 33, pcs ms ++ ja⟩ :: H) wr
theorem MvL.psl {w wr : World} {H : List Bk} {ms : List P3} {tv : Value} (h : MvL w H ms tv wr) : PSl wr tv ms := by
  rcases h with ⟨rfl, rfl, hp⟩ | ⟨ga, ca, ja, rfl, _, _, _, hp⟩
  · exact .inl ⟨rfl, rfl⟩
  · exact .inr ⟨ga, 0, ca, _, _, _, rfl, hp.blk, by rw [List.drop_zero, ← pcs_length, List.take_left']; rfl⟩
set_option maxHeartbeats 4000000 in
/-- It is too long, or not small. -/
theorem moved_long (base : Option Addr) (n cap : Nat) (h : (100 : Int) < n) (p b : P3) (w : World) : Calls Try.prog 9 #[.slice base n cap, PV p, PV b] w (Ret (.bool true) w) := by
  go_enter Try.func9, Try.ntmps9
  have hp := Hp.start [] w
  go_wp2_with (first
          | ((with_reducible apply sx_box hp); exact za rfl; exact rfl; clear hp; (try clear w1); intro g w1 hp; simp only [zp, zq, z0, z1])
          | ((with_reducible apply sx_alloc hp); infer_instance; exact rfl; clear hp; (try clear w1); intro g w1 hp; simp only [zp, zq, z0, z1])
          | ((with_reducible apply sx_load_agg hp); exact zt rfl; infer_instance; infer_instance; (first | exact zl rfl | exact LB_le (by omega)); (first | (with_reducible exact LB_set (by omega)) | (simp only [n0, Nat.reduceAdd, n1, n2, n3, n4, n5, n6, n7, n8, n9]; try rfl)); simp only [zp, zq, z0, z1])
          | ((with_reducible apply sx_store hp); exact zt rfl; exact za rfl; exact rfl; (first | exact AggTy.size | exact OneTy.size); exact rfl; infer_instance; (first | (with_reducible exact LB_set (by omega)) | (simp only [n0, Nat.reduceAdd, n1, n2, n3, n4, n5, n6, n7, n8, n9]; try rfl)); (first | exact zl rfl | exact LB_le (by omega)); exact rfl; infer_instance; clear hp; (try clear w1); intro w1 hp)
          | ((with_reducible apply sx_indexAddr); exact zx rfl; exact zk rfl; infer_instance; (first | exact AggTy.size | exact OneTy.size); omega; omega; ((try simp only [m0, Int.reduceToNat, m1, m2, Nat.reduceMul, Nat.reduceAdd, m3, m4, m5, n0]); exact rfl); simp only [zp, zq, z0, z1])
          | ((with_reducible apply sx_load_far hp); exact zt rfl; assumption; infer_instance; assumption; (first | exact zl rfl | omega); simp only [zp, zq, z0, z1])
          | ((with_reducible apply sx_buildSlice hp); infer_instance; (first | exact AggTy.size | exact OneTy.size); infer_instance; exact zl rfl; decide; (first | exact (rfl : _ = numbered 0 [_]) | exact (rfl : _ = numbered 0 [_, _]) | exact (rfl : _ = numbered 0 [_, _, _]) | exact (rfl : _ = numbered 0 [_, _, _, _])); exact rfl; (first | exact (rfl : _ = List.map (fun x : List Value => x.toArray) [_]) | exact (rfl : _ = List.map (fun x : List Value => x.toArray) [_, _]) | exact (rfl : _ = List.map (fun x : List Value => x.toArray) [_, _, _]) | exact (rfl : _ = List.map (fun x : List Value => x.toArray) [_, _, _, _])); (intro l hl <;> simp only [List.mem_cons, List.not_mem_nil, or_false] at hl <;> rcases hl with rfl | rfl | rfl | rfl <;> rfl); exact rfl; clear hp; (try clear w1); intro g w1 hp; simp only [zp, zq, z0, z1])
          | ((with_reducible apply sx_append_nil hp); infer_instance; infer_instance; exact rfl; decide; exact (rfl : _ = Value.slice none 0 0); exact zy rfl; infer_instance; exact rfl; exact rfl; decide; (unfold maxLen; decide); decide; clear hp; (try clear w1); intro g cap junk w1 hl1 hl2 hl3 hp; simp only [zp, zq, z0, z1])
          | ((with_reducible apply sx_append hp); infer_instance; infer_instance; exact rfl; decide; exact zy rfl; (first | exact List.Perm.refl _ | exact List.perm_middle (l₁ := [_]) | exact List.perm_middle (l₁ := [_, _]) | exact List.perm_middle (l₁ := [_, _, _]) | exact List.perm_middle (l₁ := [_, _, _, _]) | exact List.perm_middle (l₁ := [_, _, _, _, _])); (first | exact pcs_length _ | (simp only [List.length_map, Nat.mul_one])); assumption; assumption; assumption; exact zy rfl; infer_instance; exact rfl; exact rfl; decide; (unfold maxLen; omega); omega; clear hp; (try clear w1); intro g cap junk w1 hl1 hl2 hl3 hp; (try dsimp only [List.cons_append, List.nil_append] at hp); simp only [zp, zq, z0, z1])
          | ((with_reducible refine sx_call hp (awake7 _) ?_); clear hp; (try clear w1); intro w1 hp))
  exact bodyPost_ret (results_one rfl rfl) rfl ⟨rfl, hp.keep⟩
set_option maxHeartbeats 4000000 in
theorem moved_great (base : Option Addr) (n cap : Nat) (h : ¬ (100 : Int) < n) (p b : P3) (x y : Bool) (hxy : x = false ∨ (x = true ∧ y = false)) (Hx : Hid (∀ w, Calls Try.prog 24 #[PV p] w (Ret (.bool x) w))) (Hy : Hid (∀ w, Calls Try.prog 24 #[PV b] w (Ret (.bool y) w))) (w : World) : Calls Try.prog 9 #[.slice base n cap, PV p, PV b] w (Ret (.bool true) w) := by
  rcases hxy with rfl | ⟨rfl, rfl⟩
  · skip
    go_enter Try.func9, Try.ntmps9
    have hp := Hp.start [] w
    go_wp2_with (first
          | ((with_reducible apply sx_box hp); exact za rfl; exact rfl; clear hp; (try clear w1); intro g w1 hp; simp only [zp, zq, z0, z1])
          | ((with_reducible apply sx_alloc hp); infer_instance; exact rfl; clear hp; (try clear w1); intro g w1 hp; simp only [zp, zq, z0, z1])
          | ((with_reducible apply sx_load_agg hp); exact zt rfl; infer_instance; infer_instance; (first | exact zl rfl | exact LB_le (by omega)); (first | (with_reducible exact LB_set (by omega)) | (simp only [n0, Nat.reduceAdd, n1, n2, n3, n4, n5, n6, n7, n8, n9]; try rfl)); simp only [zp, zq, z0, z1])
          | ((with_reducible apply sx_store hp); exact zt rfl; exact za rfl; exact rfl; (first | exact AggTy.size | exact OneTy.size); exact rfl; infer_instance; (first | (with_reducible exact LB_set (by omega)) | (simp only [n0, Nat.reduceAdd, n1, n2, n3, n4, n5, n6, n7, n8, n9]; try rfl)); (first | exact zl rfl | exact LB_le (by omega)); exact rfl; infer_instance; clear hp; (try clear w1); intro w1 hp)
          | ((with_reducible apply sx_indexAddr); exact zx rfl; exact zk rfl; infer_instance; (first | exact AggTy.size | exact OneTy.size); omega; omega; ((try simp only [m0, Int.reduceToNat, m1, m2, Nat.reduceMul, Nat.reduceAdd, m3, m4, m5, n0]); exact rfl); simp only [zp, zq, z0, z1])
          | ((with_reducible apply sx_load_far hp); exact zt rfl; assumption; infer_instance; assumption; (first | exact zl rfl | omega); simp only [zp, zq, z0, z1])
          | ((with_reducible apply sx_buildSlice hp); infer_instance; (first | exact AggTy.size | exact OneTy.size); infer_instance; exact zl rfl; decide; (first | exact (rfl : _ = numbered 0 [_]) | exact (rfl : _ = numbered 0 [_, _]) | exact (rfl : _ = numbered 0 [_, _, _]) | exact (rfl : _ = numbered 0 [_, _, _, _])); exact rfl; (first | exact (rfl : _ = List.map (fun x : List Value => x.toArray) [_]) | exact (rfl : _ = List.map (fun x : List Value => x.toArray) [_, _]) | exact (rfl : _ = List.map (fun x : List Value => x.toArray) [_, _, _]) | exact (rfl : _ = List.map (fun x : List Value => x.toArray) [_, _, _, _])); (intro l hl <;> simp only [List.mem_cons, List.not_mem_nil, or_false] at hl <;> rcases hl with rfl | rfl | rfl | rfl <;> rfl); exact rfl; clear hp; (try clear w1); intro g w1 hp; simp only [zp, zq, z0, z1])
          | ((with_reducible apply sx_append_nil hp); infer_instance; infer_instance; exact rfl; decide; exact (rfl : _ = Value.slice none 0 0); exact zy rfl; infer_instance; exact rfl; exact rfl; decide; (unfold maxLen; decide); decide; clear hp; (try clear w1); intro g cap junk w1 hl1 hl2 hl3 hp; simp only [zp, zq, z0, z1])
          | ((with_reducible apply sx_append hp); infer_instance; infer_instance; exact rfl; decide; exact zy rfl; (first | exact List.Perm.refl _ | exact List.perm_middle (l₁ := [_]) | exact List.perm_middle (l₁ := [_, _]) | exact List.perm_middle (l₁ := [_, _, _]) | exact List.perm_middle (l₁ := [_, _, _, _]) | exact List.perm_middle (l₁ := [_, _, _, _, _])); (first | exact pcs_length _ | (simp only [List.length_map, Nat.mul_one])); assumption; assumption; assumption; exact zy rfl; infer_instance; exact rfl; exact rfl; decide; (unfold maxLen; omega); omega; clear hp; (try clear w1); intro g cap junk w1 hl1 hl2 hl3 hp; (try dsimp only [List.cons_append, List.nil_append] at hp); simp only [zp, zq, z0, z1])
          | ((with_reducible first | refine sx_call hp (awake7 _) ?_ | refine sx_call hp (Hx.out _) ?_); clear hp; (try clear w1); intro w1 hp)
          | ((with_reducible apply sx_strip); exact rfl)
          | ((with_reducible apply sx_unwanted); exact rfl; simp only [zp, zq, z0, z1]))
    exact bodyPost_ret (results_one rfl rfl) rfl ⟨rfl, hp.keep⟩
  · skip
    go_enter Try.func9, Try.ntmps9
    have hp := Hp.start [] w
    go_wp2_with (first
          | ((with_reducible apply sx_box hp); exact za rfl; exact rfl; clear hp; (try clear w1); intro g w1 hp; simp only [zp, zq, z0, z1])
          | ((with_reducible apply sx_alloc hp); infer_instance; exact rfl; clear hp; (try clear w1); intro g w1 hp; simp only [zp, zq, z0, z1])
          | ((with_reducible apply sx_load_agg hp); exact zt rfl; infer_instance; infer_instance; (first | exact zl rfl | exact LB_le (by omega)); (first | (with_reducible exact LB_set (by omega)) | (simp only [n0, Nat.reduceAdd, n1, n2, n3, n4, n5, n6, n7, n8, n9]; try rfl)); simp only [zp, zq, z0, z1])
          | ((with_reducible apply sx_store hp); exact zt rfl; exact za rfl; exact rfl; (first | exact AggTy.size | exact OneTy.size); exact rfl; infer_instance; (first | (with_reducible exact LB_set (by omega)) | (simp only [n0, Nat.reduceAdd, n1, n2, n3, n4, n5, n6, n7, n8, n9]; try rfl)); (first | exact zl rfl | exact LB_le (by omega)); exact rfl; infer_instance; clear hp; (try clear w1); intro w1 hp)
          | ((with_reducible apply sx_indexAddr); exact zx rfl; exact zk rfl; infer_instance; (first | exact AggTy.size | exact OneTy.size); omega; omega; ((try simp only [m0, Int.reduceToNat, m1, m2, Nat.reduceMul, Nat.reduceAdd, m3, m4, m5, n0]); exact rfl); simp only [zp, zq, z0, z1])
          | ((with_reducible apply sx_load_far hp); exact zt rfl; assumption; infer_instance; assumption; (first | exact zl rfl | omega); simp only [zp, zq, z0, z1])
          | ((with_reducible apply sx_buildSlice hp); infer_instance; (first | exact AggTy.size | exact OneTy.size); infer_instance; exact zl rfl; decide; (first | exact (rfl : _ = numbered 0 [_]) | exact (rfl : _ = numbered 0 [_, _]) | exact (rfl : _ = numbered 0 [_, _, _]) | exact (rfl : _ = numbered 0 [_, _, _, _])); exact rfl; (first | exact (rfl : _ = List.map (fun x : List Value => x.toArray) [_]) | exact (rfl : _ = List.map (fun x : List Value => x.toArray) [_, _]) | exact (rfl : _ = List.map (fun x : List Value => x.toArray) [_, _, _]) | exact (rfl : _ = List.map (fun x : List Value => x.toArray) [_, _, _, _])); (intro l hl <;> simp only [List.mem_cons, List.not_mem_nil, or_false] at hl <;> rcases hl with rfl | rfl | rfl | rfl <;> rfl); exact rfl; clear hp; (try clear w1); intro g w1 hp; simp only [zp, zq, z0, z1])
          | ((with_reducible apply sx_append_nil hp); infer_instance; infer_instance; exact rfl; decide; exact (rfl : _ = Value.slice none 0 0); exact zy rfl; infer_instance; exact rfl; exact rfl; decide; (unfold maxLen; decide); decide; clear hp; (try clear w1); intro g cap junk w1 hl1 hl2 hl3 hp; simp only [zp, zq, z0, z1])
          | ((with_reducible apply sx_append hp); infer_instance; infer_instance; exact rfl; decide; exact zy rfl; (first | exact List.Perm.refl _ | exact List.perm_middle (l₁ := [_]) | exact List.perm_middle (l₁ := [_, _]) | exact List.perm_middle (l₁ := [_, _, _]) | exact List.perm_middle (l₁ := [_, _, _, _]) | exact List.perm_middle (l₁ := [_, _, _, _, _])); (first | exact pcs_length _ | (simp only [List.length_map, Nat.mul_one])); assumption; assumption; assumption; exact zy rfl; infer_instance; exact rfl; exact rfl; decide; (unfold maxLen; omega); omega; clear hp; (try clear w1); intro g cap junk w1 hl1 hl2 hl3 hp; (try dsimp only [List.cons_append, List.nil_append] at hp); simp only [zp, zq, z0, z1])
          | ((with_reducible first | refine sx_call hp (awake7 _) ?_ | refine sx_call hp (Hx.out _) ?_ | refine sx_call hp (Hy.out _) ?_); clear hp; (try clear w1); intro w1 hp)
          | ((with_reducible apply sx_strip); exact rfl)
          | ((with_reducible apply sx_unwanted); exact rfl; simp only [zp, zq, z0, z1]))
    exact bodyPost_ret (results_one rfl rfl) rfl ⟨rfl, hp.keep⟩
theorem ISl.empty {base : Nat} {w : World} {sv : Value} (h : ISl base w sv []) : ∃ b c, sv = .slice b 0 c := by
  rcases h with ⟨rfl, _⟩ | ⟨g, cap, _, _, rfl, _⟩
  · exact ⟨none, 0, rfl⟩
  · exact ⟨_, cap, rfl⟩
theorem NSl.zero {w : World} {b : Option Addr} {c : Nat} : NSl w (.slice b 0 c) [] := ⟨b, c, rfl, fun k n h => by simp at h⟩
theorem PSl.of {w : World} {g cap : Nat} {t : TypeId} {ms : List P3} {junk : List Value} (h : w.heap[g]? = some (.cells (pcs ms ++ junk).toArray t (0, 0))) {n : Nat} (hn : n = ms.length) : PSl w (.slice (some ⟨g, 0, none⟩) n cap) ms := by
  subst hn
  exact .inr ⟨g, 0, cap, _, _, _, rfl, h, by rw [List.drop_zero, ← pcs_length, List.take_left']; rfl⟩
set_option maxHeartbeats 8000000 in
theorem moved_empty (p b : P3) (ps : List P3) (Hps0 : Hid (ps = []))
    (Hx : Hid (∀ w, Calls Try.prog 24 #[PV p] w (Ret (.bool true) w))) (Hy : Hid (∀ w, Calls Try.prog 24 #[PV b] w (Ret (.bool true) w)))
    (Hmp : Hid (∀ w, Calls Try.prog 20 #[PV p, PV b] w (Ret (PV (p.add b)) w)))
    (sp : List Int) (Hsp : sp = []) (e f gg : Int) (c : Bool) (u : Int) (base : Option Addr) (n : Nat) (hn : n = 0) (cap : Nat) (w : World)
    (Hs : Hid (∀ w1, Keep [] w w1 → Calls Try.prog 14 #[.slice base n cap] w1 (RetI sp (fun sv => .tuple #[sv, .int .i64 e]) w1)))
    (Hs' : Hid (∀ w1 v1, PSl w1 v1 (ps.map (·.add b)) → Calls Try.prog 14 #[v1] w1 (RetI sp (fun sv => .tuple #[sv, .int .i64 e]) w1)))
    (Hi : Hid (∀ w1, Keep [] w w1 → Calls Try.prog 17 #[.slice base n cap, PV p] w1 (Ret (.tuple #[.bool c, .int .i64 f]) w1)))
    (Hi' : Hid (∀ w1 v1, PSl w1 v1 (ps.map (·.add b)) → Calls Try.prog 17 #[v1, PV (p.add b)] w1 (Ret (.tuple #[.bool c, .int .i64 f]) w1)))
    (Hv : Hid (∀ w1, Keep [] w w1 → Calls Try.prog 22 #[.slice base n cap] w1 (Ret (.tuple #[W u, .int .i64 gg]) w1)))
    (Hv' : Hid (∀ w1 v1, PSl w1 v1 (ps.map (·.add b)) → Calls Try.prog 22 #[v1] w1 (Ret (.tuple #[W u, .int .i64 gg]) w1))) :
    Calls Try.prog 9 #[.slice base n cap, PV p, PV b] w (Ret (.bool true) w) := by
  subst Hsp hn
  have hnil : ∀ w1 : World, PSl w1 (.slice none 0 0) (ps.map (·.add b)) := fun w1 => .inl ⟨rfl, by rw [Hps0.out]; rfl⟩
  have HN := Lib.hid hnil
  clear hnil
  go_enter Try.func9, Try.ntmps9
  have hp := Hp.start [] w
  go_wp2_with (first
          | ((with_reducible apply sx_box hp); exact za rfl; exact rfl; clear hp; (try clear w1); intro g w1 hp; simp only [zp, zq, z0, z1])
          | ((with_reducible apply sx_alloc hp); infer_instance; exact rfl; clear hp; (try clear w1); intro g w1 hp; simp only [zp, zq, z0, z1])
          | ((with_reducible apply sx_load_agg hp); exact zt rfl; infer_instance; infer_instance; (first | exact zl rfl | exact LB_le (by omega)); (first | (with_reducible exact LB_set (by omega)) | (simp only [n0, Nat.reduceAdd, n1, n2, n3, n4, n5, n6, n7, n8, n9]; try rfl)); simp only [zp, zq, z0, z1])
          | ((with_reducible apply sx_store hp); exact zt rfl; exact za rfl; exact rfl; (first | exact AggTy.size | exact OneTy.size); exact rfl; infer_instance; (first | (with_reducible exact LB_set (by omega)) | (simp only [n0, Nat.reduceAdd, n1, n2, n3, n4, n5, n6, n7, n8, n9]; try rfl)); (first | exact zl rfl | exact LB_le (by omega)); exact rfl; infer_instance; clear hp; (try clear w1); intro w1 hp)
          | ((with_reducible apply sx_indexAddr); exact zx rfl; exact zk rfl; infer_instance; (first | exact AggTy.size | exact OneTy.size); omega; omega; ((try simp only [m0, Int.reduceToNat, m1, m2, Nat.reduceMul, Nat.reduceAdd, m3, m4, m5, n0]); exact rfl); simp only [zp, zq, z0, z1])
          | ((with_reducible apply sx_load_far hp); exact zt rfl; assumption; infer_instance; assumption; (first | exact zl rfl | omega); simp only [zp, zq, z0, z1])
          | ((with_reducible apply sx_buildSlice hp); infer_instance; (first | exact AggTy.size | exact OneTy.size); infer_instance; exact zl rfl; decide; (first | exact (rfl : _ = numbered 0 [_]) | exact (rfl : _ = numbered 0 [_, _]) | exact (rfl : _ = numbered 0 [_, _, _]) | exact (rfl : _ = numbered 0 [_, _, _, _])); exact rfl; (first | exact (rfl : _ = List.map (fun x : List Value => x.toArray) [_]) | exact (rfl : _ = List.map (fun x : List Value => x.toArray) [_, _]) | exact (rfl : _ = List.map (fun x : List Value => x.toArray) [_, _, _]) | exact (rfl : _ = List.map (fun x : List Value => x.toArray) [_, _, _, _])); (intro l hl <;> simp only [List.mem_cons, List.not_mem_nil, or_false] at hl <;> rcases hl with rfl | rfl | rfl | rfl <;> rfl); exact rfl; clear hp; (try clear w1); intro g w1 hp; simp only [zp, zq, z0, z1])
          | ((with_reducible apply sx_append_nil hp); infer_instance; infer_instance; exact rfl; decide; exact (rfl : _ = Value.slice none 0 0); exact zy rfl; infer_instance; exact rfl; exact rfl; decide; (unfold maxLen; decide); decide; clear hp; (try clear w1); intro g cap junk w1 hl1 hl2 hl3 hp; simp only [zp, zq, z0, z1])
          | ((with_reducible apply sx_append hp); infer_instance; infer_instance; exact rfl; decide; exact zy rfl; (first | exact List.Perm.refl _ | exact List.perm_middle (l₁ := [_]) | exact List.perm_middle (l₁ := [_, _]) | exact List.perm_middle (l₁ := [_, _, _]) | exact List.perm_middle (l₁ := [_, _, _, _]) | exact List.perm_middle (l₁ := [_, _, _, _, _])); (first | exact pcs_length _ | (simp only [List.length_map, Nat.mul_one])); assumption; assumption; assumption; exact zy rfl; infer_instance; exact rfl; exact rfl; decide; (unfold maxLen; omega); omega; clear hp; (try clear w1); intro g cap junk w1 hl1 hl2 hl3 hp; (try dsimp only [List.cons_append, List.nil_append] at hp); simp only [zp, zq, z0, z1])
          | ((with_reducible first | refine sx_call hp (Hx.out _) ?_ | refine sx_call hp (Hy.out _) ?_); clear hp; (try clear w1); intro w1 hp)
          | ((with_reducible apply sx_strip); exact rfl)
          | ((with_reducible apply sx_unwanted); exact rfl; simp only [zp, zq, z0, z1]))
  apply wp_loop_once
  go_wp2_with (first
          | ((with_reducible apply sx_box hp); exact za rfl; exact rfl; clear hp; (try clear w1); intro g w1 hp; simp only [zp, zq, z0, z1])
          | ((with_reducible apply sx_alloc hp); infer_instance; exact rfl; clear hp; (try clear w1); intro g w1 hp; simp only [zp, zq, z0, z1])
          | ((with_reducible apply sx_load_agg hp); exact zt rfl; infer_instance; infer_instance; (first | exact zl rfl | exact LB_le (by omega)); (first | (with_reducible exact LB_set (by omega)) | (simp only [n0, Nat.reduceAdd, n1, n2, n3, n4, n5, n6, n7, n8, n9]; try rfl)); simp only [zp, zq, z0, z1])
          | ((with_reducible apply sx_store hp); exact zt rfl; exact za rfl; exact rfl; (first | exact AggTy.size | exact OneTy.size); exact rfl; infer_instance; (first | (with_reducible exact LB_set (by omega)) | (simp only [n0, Nat.reduceAdd, n1, n2, n3, n4, n5, n6, n7, n8, n9]; try rfl)); (first | exact zl rfl | exact LB_le (by omega)); exact rfl; infer_instance; clear hp; (try clear w1); intro w1 hp)
          | ((with_reducible apply sx_indexAddr); exact zx rfl; exact zk rfl; infer_instance; (first | exact AggTy.size | exact OneTy.size); omega; omega; ((try simp only [m0, Int.reduceToNat, m1, m2, Nat.reduceMul, Nat.reduceAdd, m3, m4, m5, n0]); exact rfl); simp only [zp, zq, z0, z1])
          | ((with_reducible apply sx_load_far hp); exact zt rfl; assumption; infer_instance; assumption; (first | exact zl rfl | omega); simp only [zp, zq, z0, z1])
          | ((with_reducible apply sx_buildSlice hp); infer_instance; (first | exact AggTy.size | exact OneTy.size); infer_instance; exact zl rfl; decide; (first | exact (rfl : _ = numbered 0 [_]) | exact (rfl : _ = numbered 0 [_, _]) | exact (rfl : _ = numbered 0 [_, _, _]) | exact (rfl : _ = numbered 0 [_, _, _, _])); exact rfl; (first | exact (rfl : _ = List.map (fun x : List Value => x.toArray) [_]) | exact (rfl : _ = List.map (fun x : List Value => x.toArray) [_, _]) | exact (rfl : _ = List.map (fun x : List Value => x.toArray) [_, _, _]) | exact (rfl : _ = List.map (fun x : List Value => x.toArray) [_, _, _, _])); (intro l hl <;> simp only [List.mem_cons, List.not_mem_nil, or_false] at hl <;> rcases hl with rfl | rfl | rfl | rfl <;> rfl); exact rfl; clear hp; (try clear w1); intro g w1 hp; simp only [zp, zq, z0, z1])
          | ((with_reducible apply sx_append_nil hp); infer_instance; infer_instance; exact rfl; decide; exact (rfl : _ = Value.slice none 0 0); exact zy rfl; infer_instance; exact rfl; exact rfl; decide; (unfold maxLen; decide); decide; clear hp; (try clear w1); intro g cap junk w1 hl1 hl2 hl3 hp; simp only [zp, zq, z0, z1])
          | ((with_reducible apply sx_append hp); infer_instance; infer_instance; exact rfl; decide; exact zy rfl; (first | exact List.Perm.refl _ | exact List.perm_middle (l₁ := [_]) | exact List.perm_middle (l₁ := [_, _]) | exact List.perm_middle (l₁ := [_, _, _]) | exact List.perm_middle (l₁ := [_, _, _, _]) | exact List.perm_middle (l₁ := [_, _, _, _, _])); (first | exact pcs_length _ | (simp only [List.length_map, Nat.mul_one])); assumption; assumption; assumption; exact zy rfl; infer_instance; exact rfl; exact rfl; decide; (unfold maxLen; omega); omega; clear hp; (try clear w1); intro g cap junk w1 hl1 hl2 hl3 hp; (try dsimp only [List.cons_append, List.nil_append] at hp); simp only [zp, zq, z0, z1])
          | ((with_reducible first | refine sx_call hp (Hmp.out _) ?_ | refine sx_call hp (awake7 _) ?_); clear hp; (try clear w1); intro w1 hp)
          | ((with_reducible refine Calls.mono (Hs.out _ hp.keep) ?_); rintro e' w2 ⟨sv, rfl, hk2, hI2⟩; obtain ⟨b', c', rfl⟩ := hI2.empty; have hp2 := hp.call hk2; clear hp; have hp := hp2; clear hp2)
          | ((with_reducible refine Calls.mono (Hs'.out _ _ (HN.out _)) ?_); rintro e' w2 ⟨sv, rfl, hk2, hI2⟩; obtain ⟨b', c', rfl⟩ := hI2.empty; have hp2 := hp.call hk2; clear hp; have hp := hp2; clear hp2)
          | ((with_reducible refine sx_call hp (Hi.out _ hp.keep) ?_); clear hp; (try clear w1); intro w1 hp)
          | ((with_reducible refine sx_call hp (Hi'.out _ _ (HN.out _)) ?_); clear hp; (try clear w1); intro w1 hp)
          | ((with_reducible refine sx_call hp (Hv.out _ hp.keep) ?_); clear hp; (try clear w1); intro w1 hp)
          | ((with_reducible refine sx_call hp (Hv'.out _ _ (HN.out _)) ?_); clear hp; (try clear w1); intro w1 hp)
          | ((with_reducible refine sx_call hp (same_eq [] (by unfold maxLen; simp) _ _ _ NSl.zero NSl.zero) ?_); clear hp; (try clear w1); intro w1 hp)
          | ((with_reducible apply sx_strip); exact rfl)
          | ((with_reducible apply sx_unwanted); exact rfl; simp only [zp, zq, z0, z1]))
  exact bodyPost_ret (results_one rfl rfl) rfl ⟨rfl, hp.keep⟩
set_option maxHeartbeats 8000000 in
theorem moved_core (ps : List P3) (n : Nat) (Hn : Hid (n = ps.length)) (h0 : 0 < n) (h100 : ¬ (100 : Int) < n) (p b : P3)
    (Hx : Hid (∀ w, Calls Try.prog 24 #[PV p] w (Ret (.bool true) w))) (Hy : Hid (∀ w, Calls Try.prog 24 #[PV b] w (Ret (.bool true) w)))
    (Hm : Hid (∀ q : P3, q.small → ∀ w, Calls Try.prog 20 #[PV q, PV b] w (Ret (PV (q.add b)) w)))
    (Hmp : Hid (∀ w, Calls Try.prog 20 #[PV p, PV b] w (Ret (PV (p.add b)) w)))
    (sp : List Int) (hsp : sp.length ≤ maxLen) (e f gg : Int) (c : Bool) (u : Int) (g0 off : Nat) (base : Option Addr) (hbase : base = some ⟨g0, off, none⟩) (cap : Nat) (w : World) (bc : List Value) (t : TypeId) {z : Nat × Nat} (hb : w.heap[g0]? = some (.cells bc.toArray t z)) (Hv0 : Hid ((bc.drop off).take (ps.length * 3) = pcs ps))
    (Hs : Hid ((∀ q ∈ ps, q.small) → ∀ w1, Keep [] w w1 → Calls Try.prog 14 #[.slice base n cap] w1 (RetI sp (fun sv => .tuple #[sv, .int .i64 e]) w1)))
    (Hs' : Hid ((∀ q ∈ ps, q.small) → ∀ w1 v1, PSl w1 v1 (ps.map (·.add b)) → Calls Try.prog 14 #[v1] w1 (RetI sp (fun sv => .tuple #[sv, .int .i64 e]) w1)))
    (Hi : Hid ((∀ q ∈ ps, q.small) → ∀ w1, Keep [] w w1 → Calls Try.prog 17 #[.slice base n cap, PV p] w1 (Ret (.tuple #[.bool c, .int .i64 f]) w1)))
    (Hi' : Hid ((∀ q ∈ ps, q.small) → ∀ w1 v1, PSl w1 v1 (ps.map (·.add b)) → Calls Try.prog 17 #[v1, PV (p.add b)] w1 (Ret (.tuple #[.bool c, .int .i64 f]) w1)))
    (Hv : Hid ((∀ q ∈ ps, q.small) → ∀ w1, Keep [] w w1 → Calls Try.prog 22 #[.slice base n cap] w1 (Ret (.tuple #[W u, .int .i64 gg]) w1)))
    (Hv' : Hid ((∀ q ∈ ps, q.small) → ∀ w1 v1, PSl w1 v1 (ps.map (·.add b)) → Calls Try.prog 22 #[v1] w1 (Ret (.tuple #[W u, .int .i64 gg]) w1))) :
    Calls Try.prog 9 #[.slice base n cap, PV p, PV b] w (Ret (.bool true) w) := by
  subst hbase
  have hn9 : (n : Int) ≤ 100 := by omega
  go_enter Try.func9, Try.ntmps9
  have hp := Hp.start [] w
  go_wp2_with (first
          | ((with_reducible apply sx_box hp); exact za rfl; exact rfl; clear hp; (try clear w1); intro g w1 hp; simp only [zp, zq, z0, z1])
          | ((with_reducible apply sx_alloc hp); infer_instance; exact rfl; clear hp; (try clear w1); intro g w1 hp; simp only [zp, zq, z0, z1])
          | ((with_reducible apply sx_load_agg hp); exact zt rfl; infer_instance; infer_instance; (first | exact zl rfl | exact LB_le (by omega)); (first | (with_reducible exact LB_set (by omega)) | (simp only [n0, Nat.reduceAdd, n1, n2, n3, n4, n5, n6, n7, n8, n9]; try rfl)); simp only [zp, zq, z0, z1])
          | ((with_reducible apply sx_store hp); exact zt rfl; exact za rfl; exact rfl; (first | exact AggTy.size | exact OneTy.size); exact rfl; infer_instance; (first | (with_reducible exact LB_set (by omega)) | (simp only [n0, Nat.reduceAdd, n1, n2, n3, n4, n5, n6, n7, n8, n9]; try rfl)); (first | exact zl rfl | exact LB_le (by omega)); exact rfl; infer_instance; clear hp; (try clear w1); intro w1 hp)
          | ((with_reducible apply sx_indexAddr); exact zx rfl; exact zk rfl; infer_instance; (first | exact AggTy.size | exact OneTy.size); omega; omega; ((try simp only [m0, Int.reduceToNat, m1, m2, Nat.reduceMul, Nat.reduceAdd, m3, m4, m5, n0]); exact rfl); simp only [zp, zq, z0, z1])
          | ((with_reducible apply sx_load_far hp); exact zt rfl; assumption; infer_instance; assumption; (first | exact zl rfl | omega); simp only [zp, zq, z0, z1])
          | ((with_reducible apply sx_buildSlice hp); infer_instance; (first | exact AggTy.size | exact OneTy.size); infer_instance; exact zl rfl; decide; (first | exact (rfl : _ = numbered 0 [_]) | exact (rfl : _ = numbered 0 [_, _]) | exact (rfl : _ = numbered 0 [_, _, _]) | exact (rfl : _ = numbered 0 [_, _, _, _])); exact rfl; (first | exact (rfl : _ = List.map (fun x : List Value => x.toArray) [_]) | exact (rfl : _ = List.map (fun x : List Value => x.toArray) [_, _]) | exact (rfl : _ = List.map (fun x : List Value => x.toArray) [_, _, _]) | exact (rfl : _ = List.map (fun x : List Value => x.toArray) [_, _, _, _])); (intro l hl <;> simp only [List.mem_cons, List.not_mem_nil, or_false] at hl <;> rcases hl with rfl | rfl | rfl | rfl <;> rfl); exact rfl; clear hp; (try clear w1); intro g w1 hp; simp only [zp, zq, z0, z1])
          | ((with_reducible apply sx_append_nil hp); infer_instance; infer_instance; exact rfl; decide; exact (rfl : _ = Value.slice none 0 0); exact zy rfl; infer_instance; exact rfl; exact rfl; decide; (unfold maxLen; decide); decide; clear hp; (try clear w1); intro g cap junk w1 hl1 hl2 hl3 hp; simp only [zp, zq, z0, z1])
          | ((with_reducible apply sx_append hp); infer_instance; infer_instance; exact rfl; decide; exact zy rfl; (first | exact List.Perm.refl _ | exact List.perm_middle (l₁ := [_]) | exact List.perm_middle (l₁ := [_, _]) | exact List.perm_middle (l₁ := [_, _, _]) | exact List.perm_middle (l₁ := [_, _, _, _]) | exact List.perm_middle (l₁ := [_, _, _, _, _])); (first | exact pcs_length _ | (simp only [List.length_map, Nat.mul_one])); assumption; assumption; assumption; exact zy rfl; infer_instance; exact rfl; exact rfl; decide; (unfold maxLen; omega); omega; clear hp; (try clear w1); intro g cap junk w1 hl1 hl2 hl3 hp; (try dsimp only [List.cons_append, List.nil_append] at hp); simp only [zp, zq, z0, z1])
          | ((with_reducible first | refine sx_call hp (Hx.out _) ?_ | refine sx_call hp (Hy.out _) ?_); clear hp; (try clear w1); intro w1 hp)
          | ((with_reducible apply sx_strip); exact rfl)
          | ((with_reducible apply sx_unwanted); exact rfl; simp only [zp, zq, z0, z1]))
  rename_i gp K hK
  obtain ⟨gb, rfl⟩ : ∃ x : Nat, x = g := ⟨_, rfl⟩
  go_loopw [7, 8] (fun tv i wr => ∃ k : Nat, k ≤ n ∧ i = .int .i64 k ∧ (∀ q ∈ ps.take k, q.small) ∧ MvL w [⟨gb, 33, [.int .i64 b.x, .int .i64 b.y, .int .i64 b.z]⟩, ⟨gp, 33, [.int .i64 p.x, .int .i64 p.y, .int .i64 p.z]⟩] ((ps.take k).map (·.add b)) tv wr) (fun _ i _ => n - (intOf i).toNat)
  case atStart => exact ⟨0, by omega, rfl, by simp, .inl ⟨rfl, rfl, hp⟩⟩
  case round =>
    clear hp
    obtain ⟨k, hk, rfl, hsm, hI⟩ := hrel
    have HSM := Lib.hid hsm
    clear hsm
    by_cases hk1 : k < n
    · obtain ⟨q, hq⟩ : ∃ q, ps[k]? = some q := ⟨_, List.getElem?_eq_getElem (by rw [← Hn.out]; exact hk1)⟩
      have hk2 : (k : Int) < n := by omega
      have hat := pcs_at Hv0.out hq
      have hroom : off + k * 3 + 3 ≤ bc.length := by
        rcases pcs_room Hv0.out with h | h
        · subst h; simp at hq
        · rw [← Hn.out] at h; omega
      have htake : ps.take (k + 1) = ps.take k ++ [q] := by rw [List.take_add_one, hq]; rfl
      have HT := Lib.hid htake
      have hsq := small_any q
      clear hq htake
      have hl9 : ((ps.take k).map (·.add b)).length ≤ 100 := by rw [List.length_map, List.length_take]; omega
      by_cases hs : q.small
      · rw [decide_eq_true hs] at hsq
        have HQ := Lib.hid hsq
        have HM := Lib.hid (Hm.out q hs)
        have HS := Lib.hid hs
        clear hsq hs
        rcases hI with ⟨hm0, rfl, hp⟩ | ⟨ga, ca, ja, rfl, hja, hca, hcam, hp⟩
        · have HM0 := Lib.hid hm0
          clear hm0
          go_wp2_with (first
          | ((with_reducible apply sx_box hp); exact za rfl; exact rfl; clear hp; (try clear w1); intro g w1 hp; simp only [zp, zq, z0, z1])
          | ((with_reducible apply sx_alloc hp); infer_instance; exact rfl; clear hp; (try clear w1); intro g w1 hp; simp only [zp, zq, z0, z1])
          | ((with_reducible apply sx_load_agg hp); exact zt rfl; infer_instance; infer_instance; (first | exact zl rfl | exact LB_le (by omega)); (first | (with_reducible exact LB_set (by omega)) | (simp only [n0, Nat.reduceAdd, n1, n2, n3, n4, n5, n6, n7, n8, n9]; try rfl)); simp only [zp, zq, z0, z1])
          | ((with_reducible apply sx_store hp); exact zt rfl; exact za rfl; exact rfl; (first | exact AggTy.size | exact OneTy.size); exact rfl; infer_instance; (first | (with_reducible exact LB_set (by omega)) | (simp only [n0, Nat.reduceAdd, n1, n2, n3, n4, n5, n6, n7, n8, n9]; try rfl)); (first | exact zl rfl | exact LB_le (by omega)); exact rfl; infer_instance; clear hp; (try clear w1); intro w1 hp)
          | ((with_reducible apply sx_indexAddr); exact zx rfl; exact zk rfl; infer_instance; (first | exact AggTy.size | exact OneTy.size); omega; omega; ((try simp only [m0, Int.reduceToNat, m1, m2, Nat.reduceMul, Nat.reduceAdd, m3, m4, m5, n0]); exact rfl); simp only [zp, zq, z0, z1])
          | ((with_reducible apply sx_load_far hp); exact zt rfl; assumption; infer_instance; assumption; (first | exact zl rfl | omega); simp only [zp, zq, z0, z1])
          | ((with_reducible apply sx_buildSlice hp); infer_instance; (first | exact AggTy.size | exact OneTy.size); infer_instance; exact zl rfl; decide; (first | exact (rfl : _ = numbered 0 [_]) | exact (rfl : _ = numbered 0 [_, _]) | exact (rfl : _ = numbered 0 [_, _, _]) | exact (rfl : _ = numbered 0 [_, _, _, _])); exact rfl; (first | exact (rfl : _ = List.map (fun x : List Value => x.toArray) [_]) | exact (rfl : _ = List.map (fun x : List Value => x.toArray) [_, _]) | exact (rfl : _ = List.map (fun x : List Value => x.toArray) [_, _, _]) | exact (rfl : _ = List.map (fun x : List Value => x.toArray) [_, _, _, _])); (intro l hl <;> simp only [List.mem_cons, List.not_mem_nil, or_false] at hl <;> rcases hl with rfl | rfl | rfl | rfl <;> rfl); exact rfl; clear hp; (try clear w1); intro g w1 hp; simp only [zp, zq, z0, z1])
          | ((with_reducible apply sx_append_nil hp); infer_instance; infer_instance; exact rfl; decide; exact (rfl : _ = Value.slice none 0 0); exact zy rfl; infer_instance; exact rfl; exact rfl; decide; (unfold maxLen; decide); decide; clear hp; (try clear w1); intro g cap junk w1 hl1 hl2 hl3 hp; simp only [zp, zq, z0, z1])
          | ((with_reducible apply sx_append hp); infer_instance; infer_instance; exact rfl; decide; exact zy rfl; (first | exact List.Perm.refl _ | exact List.perm_middle (l₁ := [_]) | exact List.perm_middle (l₁ := [_, _]) | exact List.perm_middle (l₁ := [_, _, _]) | exact List.perm_middle (l₁ := [_, _, _, _]) | exact List.perm_middle (l₁ := [_, _, _, _, _])); (first | exact pcs_length _ | (simp only [List.length_map, Nat.mul_one])); assumption; assumption; assumption; exact zy rfl; infer_instance; exact rfl; exact rfl; decide; (unfold maxLen; omega); omega; clear hp; (try clear w1); intro g cap junk w1 hl1 hl2 hl3 hp; (try dsimp only [List.cons_append, List.nil_append] at hp); simp only [zp, zq, z0, z1])
          | ((with_reducible refine sx_call hp (HQ.out _) ?_); clear hp; (try clear w1); intro w1 hp)
          | ((with_reducible apply sx_strip); exact rfl)
          | ((with_reducible apply sx_unwanted); exact rfl; simp only [zp, zq, z0, z1]))
          have hq := hp
          refine wp_drawn_hp hp hq [] (.q 0 (.q 1 (.q 2 (.q 3 (.q 4 (.q 5 (.l 6 (.l 7 (.l 8 (.q 9 .nil)))))))))) (by kernel_rfl) (by kernel_rfl) ?_
          clear hp hq; (try clear w1); intro w1 hp hq
          ((with_reducible apply sd_q); exact zo rfl)
          ((with_reducible apply sd_move hp); exact zs rfl; simp only [zp, zq, z0, z1])
          ((with_reducible apply sd_q); exact zo rfl)
          ((with_reducible apply sd_move hp); exact zs rfl; simp only [zp, zq, z0, z1])
          ((with_reducible apply sd_q); exact zo rfl)
          ((with_reducible apply sd_move hp); exact zi rfl; simp only [zp, zq, z0, z1])
          ((with_reducible apply sd_q); exact zo rfl)
          (first
      | ((with_reducible apply sd_indexAddr hp); exact rfl; exact zx rfl; exact zk rfl; infer_instance; (first | exact AggTy.size | exact OneTy.size); omega; omega; ((try simp only [m0, Int.reduceToNat, m1, m2, Nat.reduceMul, Nat.reduceAdd, m3, m4, m5, n0]); exact rfl); simp only [zp, zq, z0, z1])
      | ((with_reducible apply sd_pure hp); exact rfl; (focus (intro _; go_simp; (try go_ints); try with_reducible rfl)); simp only [zp, zq, z0, z1]))
          ((with_reducible apply sd_q); exact zo rfl)
          (first
      | ((with_reducible apply sd_load_agg hp); exact rfl; exact zt rfl; infer_instance; infer_instance; (first | exact zl rfl | exact LB_le (by omega)); (first | (with_reducible exact LB_set (by omega)) | (simp only [n0, Nat.reduceAdd, n1, n2, n3, n4, n5, n6, n7, n8, n9]; try rfl)); simp only [zp, zq, z0, z1])
      | ((with_reducible apply sd_load_far hp); exact rfl; exact zt rfl; assumption; infer_instance; assumption; (first | exact zl rfl | omega); simp only [zp, zq, z0, z1]))
          ((with_reducible apply sd_q); exact zo rfl)
          (first
      | ((with_reducible apply sd_load_agg hp); exact rfl; exact zt rfl; infer_instance; infer_instance; (first | exact zl rfl | exact LB_le (by omega)); (first | (with_reducible exact LB_set (by omega)) | (simp only [n0, Nat.reduceAdd, n1, n2, n3, n4, n5, n6, n7, n8, n9]; try rfl)); simp only [zp, zq, z0, z1])
      | ((with_reducible apply sd_load_far hp); exact rfl; exact zt rfl; assumption; infer_instance; assumption; (first | exact zl rfl | omega); simp only [zp, zq, z0, z1]))
          ((with_reducible apply sd_l); exact zo rfl)
          ((with_reducible apply sd_call hp); exact rfl; (focus (intro _; go_simp; try first | with_reducible rfl | exact ⟨rfl, rfl⟩)); (with_reducible exact fun w => HM.out w); exact hq; clear hp hq; (try clear w1); intro w1 hp hq; simp only [zp, zq, z0, z1])
          ((with_reducible apply sd_l); exact zo rfl)
          ((with_reducible apply sd_buildSlice hq); (repeat (first | exact List.Sublist.refl _ | apply List.Sublist.cons)); exact rfl; infer_instance; (first | exact AggTy.size | exact OneTy.size); infer_instance; exact zl rfl; decide; (first | exact (rfl : _ = numbered 0 [_]) | exact (rfl : _ = numbered 0 [_, _]) | exact (rfl : _ = numbered 0 [_, _, _]) | exact (rfl : _ = numbered 0 [_, _, _, _])); exact rfl; (first | exact (rfl : _ = List.map (fun x : List Value => x.toArray) [_]) | exact (rfl : _ = List.map (fun x : List Value => x.toArray) [_, _]) | exact (rfl : _ = List.map (fun x : List Value => x.toArray) [_, _, _]) | exact (rfl : _ = List.map (fun x : List Value => x.toArray) [_, _, _, _])); (intro l hl <;> simp only [List.mem_cons, List.not_mem_nil, or_false] at hl <;> rcases hl with rfl | rfl | rfl | rfl <;> rfl); exact rfl; clear hp hq; (try clear w1); intro g w1 hp hq; simp only [zp, zq, z0, z1])
          ((with_reducible apply sd_l); exact zo rfl)
          (first
      | ((with_reducible apply sd_append_nil hq); (repeat (first | exact List.Sublist.refl _ | apply List.Sublist.cons)); exact rfl; infer_instance; infer_instance; exact rfl; decide; exact (rfl : _ = Value.slice none 0 0); exact zy rfl; infer_instance; exact rfl; exact rfl; decide; (unfold maxLen; decide); decide; clear hp hq; (try clear w1); intro g cap junk w1 hl1 hl2 hl3 hp hq; simp only [zp, zq, z0, z1])
      | ((with_reducible apply sd_append hq); exact rfl; infer_instance; infer_instance; exact rfl; decide; exact zy rfl; (first | exact List.Perm.refl _ | exact List.perm_middle (l₁ := [_]) | exact List.perm_middle (l₁ := [_, _]) | exact List.perm_middle (l₁ := [_, _, _]) | exact List.perm_middle (l₁ := [_, _, _, _]) | exact List.perm_middle (l₁ := [_, _, _, _, _])); (repeat (first | exact List.Sublist.refl _ | apply List.Sublist.cons)); (first | exact pcs_length _ | (simp only [List.length_map, Nat.mul_one])); assumption; assumption; assumption; exact zy rfl; infer_instance; exact rfl; exact rfl; decide; (unfold maxLen; omega); omega; clear hp hq; (try clear w1); intro g cap junk w1 hl1 hl2 hl3 hp hq; (try dsimp only [List.cons_append, List.nil_append] at hq); simp only [zp, zq, z0, z1]))
          ((with_reducible apply sd_q); exact zo rfl)
          ((with_reducible apply sd_assign hp); exact zs rfl; simp only [zp, zq, z0, z1])
          (with_reducible apply sd_nil)
          clear hp; have hp := hq; clear hq
          go_wp2
          go_roundw
          case rel =>
            refine ⟨k + 1, by omega, by go_num, ?_, ?_⟩
            · rw [HT.out]; intro q' hq'
              rcases List.mem_append.1 hq' with h | h
              · exact HSM.out q' h
              · simp at h; subst h; exact HS.out
            · unfold MvL
              rw [HT.out, List.map_append, HM0.out]
              exact .inr ⟨_, _, _, rfl, by assumption, by assumption, by assumption, hp.sub (by repeat (first | exact List.nil_sublist _ | exact List.Sublist.refl _ | apply List.Sublist.cons_cons | apply List.Sublist.cons))⟩
          case measure => simp [intOf]; omega
        · generalize hms : (ps.take k).map (·.add b) = ms at *
          have HMS := Lib.hid hms
          clear hms
          go_wp2_with (first
          | ((with_reducible apply sx_box hp); exact za rfl; exact rfl; clear hp; (try clear w1); intro g w1 hp; simp only [zp, zq, z0, z1])
          | ((with_reducible apply sx_alloc hp); infer_instance; exact rfl; clear hp; (try clear w1); intro g w1 hp; simp only [zp, zq, z0, z1])
          | ((with_reducible apply sx_load_agg hp); exact zt rfl; infer_instance; infer_instance; (first | exact zl rfl | exact LB_le (by omega)); (first | (with_reducible exact LB_set (by omega)) | (simp only [n0, Nat.reduceAdd, n1, n2, n3, n4, n5, n6, n7, n8, n9]; try rfl)); simp only [zp, zq, z0, z1])
          | ((with_reducible apply sx_store hp); exact zt rfl; exact za rfl; exact rfl; (first | exact AggTy.size | exact OneTy.size); exact rfl; infer_instance; (first | (with_reducible exact LB_set (by omega)) | (simp only [n0, Nat.reduceAdd, n1, n2, n3, n4, n5, n6, n7, n8, n9]; try rfl)); (first | exact zl rfl | exact LB_le (by omega)); exact rfl; infer_instance; clear hp; (try clear w1); intro w1 hp)
          | ((with_reducible apply sx_indexAddr); exact zx rfl; exact zk rfl; infer_instance; (first | exact AggTy.size | exact OneTy.size); omega; omega; ((try simp only [m0, Int.reduceToNat, m1, m2, Nat.reduceMul, Nat.reduceAdd, m3, m4, m5, n0]); exact rfl); simp only [zp, zq, z0, z1])
          | ((with_reducible apply sx_load_far hp); exact zt rfl; assumption; infer_instance; assumption; (first | exact zl rfl | omega); simp only [zp, zq, z0, z1])
          | ((with_reducible apply sx_buildSlice hp); infer_instance; (first | exact AggTy.size | exact OneTy.size); infer_instance; exact zl rfl; decide; (first | exact (rfl : _ = numbered 0 [_]) | exact (rfl : _ = numbered 0 [_, _]) | exact (rfl : _ = numbered 0 [_, _, _]) | exact (rfl : _ = numbered 0 [_, _, _, _])); exact rfl; (first | exact (rfl : _ = List.map (fun x : List Value => x.toArray) [_]) | exact (rfl : _ = List.map (fun x : List Value => x.toArray) [_, _]) | exact (rfl : _ = List.map (fun x : List Value => x.toArray) [_, _, _]) | exact (rfl : _ = List.map (fun x : List Value => x.toArray) [_, _, _, _])); (intro l hl <;> simp only [List.mem_cons, List.not_mem_nil, or_false] at hl <;> rcases hl with rfl | rfl | rfl | rfl <;> rfl); exact rfl; clear hp; (try clear w1); intro g w1 hp; simp only [zp, zq, z0, z1])
          | ((with_reducible apply sx_append_nil hp); infer_instance; infer_instance; exact rfl; decide; exact (rfl : _ = Value.slice none 0 0); exact zy rfl; infer_instance; exact rfl; exact rfl; decide; (unfold maxLen; decide); decide; clear hp; (try clear w1); intro g cap junk w1 hl1 hl2 hl3 hp; simp only [zp, zq, z0, z1])
          | ((with_reducible apply sx_append hp); infer_instance; infer_instance; exact rfl; decide; exact zy rfl; (first | exact List.Perm.refl _ | exact List.perm_middle (l₁ := [_]) | exact List.perm_middle (l₁ := [_, _]) | exact List.perm_middle (l₁ := [_, _, _]) | exact List.perm_middle (l₁ := [_, _, _, _]) | exact List.perm_middle (l₁ := [_, _, _, _, _])); (first | exact pcs_length _ | (simp only [List.length_map, Nat.mul_one])); assumption; assumption; assumption; exact zy rfl; infer_instance; exact rfl; exact rfl; decide; (unfold maxLen; omega); omega; clear hp; (try clear w1); intro g cap junk w1 hl1 hl2 hl3 hp; (try dsimp only [List.cons_append, List.nil_append] at hp); simp only [zp, zq, z0, z1])
          | ((with_reducible refine sx_call hp (HQ.out _) ?_); clear hp; (try clear w1); intro w1 hp)
          | ((with_reducible apply sx_strip); exact rfl)
          | ((with_reducible apply sx_unwanted); exact rfl; simp only [zp, zq, z0, z1]))
          have hq := hp
          have hp := hq.sub ((List.Sublist.refl _).cons _)
          refine wp_drawn_hp hp hq [] (.q 0 (.q 1 (.q 2 (.q 3 (.q 4 (.q 5 (.l 6 (.l 7 (.l 8 (.q 9 .nil)))))))))) (by kernel_rfl) (by kernel_rfl) ?_
          clear hp hq; (try clear w1); intro w1 hp hq
          ((with_reducible apply sd_q); exact zo rfl)
          ((with_reducible apply sd_move hp); exact zs rfl; simp only [zp, zq, z0, z1])
          ((with_reducible apply sd_q); exact zo rfl)
          ((with_reducible apply sd_move hp); exact zs rfl; simp only [zp, zq, z0, z1])
          ((with_reducible apply sd_q); exact zo rfl)
          ((with_reducible apply sd_move hp); exact zi rfl; simp only [zp, zq, z0, z1])
          ((with_reducible apply sd_q); exact zo rfl)
          (first
      | ((with_reducible apply sd_indexAddr hp); exact rfl; exact zx rfl; exact zk rfl; infer_instance; (first | exact AggTy.size | exact OneTy.size); omega; omega; ((try simp only [m0, Int.reduceToNat, m1, m2, Nat.reduceMul, Nat.reduceAdd, m3, m4, m5, n0]); exact rfl); simp only [zp, zq, z0, z1])
      | ((with_reducible apply sd_pure hp); exact rfl; (focus (intro _; go_simp; (try go_ints); try with_reducible rfl)); simp only [zp, zq, z0, z1]))
          ((with_reducible apply sd_q); exact zo rfl)
          (first
      | ((with_reducible apply sd_load_agg hp); exact rfl; exact zt rfl; infer_instance; infer_instance; (first | exact zl rfl | exact LB_le (by omega)); (first | (with_reducible exact LB_set (by omega)) | (simp only [n0, Nat.reduceAdd, n1, n2, n3, n4, n5, n6, n7, n8, n9]; try rfl)); simp only [zp, zq, z0, z1])
      | ((with_reducible apply sd_load_far hp); exact rfl; exact zt rfl; assumption; infer_instance; assumption; (first | exact zl rfl | omega); simp only [zp, zq, z0, z1]))
          ((with_reducible apply sd_q); exact zo rfl)
          (first
      | ((with_reducible apply sd_load_agg hp); exact rfl; exact zt rfl; infer_instance; infer_instance; (first | exact zl rfl | exact LB_le (by omega)); (first | (with_reducible exact LB_set (by omega)) | (simp only [n0, Nat.reduceAdd, n1, n2, n3, n4, n5, n6, n7, n8, n9]; try rfl)); simp only [zp, zq, z0, z1])
      | ((with_reducible apply sd_load_far hp); exact rfl; exact zt rfl; assumption; infer_instance; assumption; (first | exact zl rfl | omega); simp only [zp, zq, z0, z1]))
          ((with_reducible apply sd_l); exact zo rfl)
          ((with_reducible apply sd_call hp); exact rfl; (focus (intro _; go_simp; try first | with_reducible rfl | exact ⟨rfl, rfl⟩)); (with_reducible exact fun w => HM.out w); exact hq; clear hp hq; (try clear w1); intro w1 hp hq; simp only [zp, zq, z0, z1])
          ((with_reducible apply sd_l); exact zo rfl)
          ((with_reducible apply sd_buildSlice hq); (repeat (first | exact List.Sublist.refl _ | apply List.Sublist.cons)); exact rfl; infer_instance; (first | exact AggTy.size | exact OneTy.size); infer_instance; exact zl rfl; decide; (first | exact (rfl : _ = numbered 0 [_]) | exact (rfl : _ = numbered 0 [_, _]) | exact (rfl : _ = numbered 0 [_, _, _]) | exact (rfl : _ = numbered 0 [_, _, _, _])); exact rfl; (first | exact (rfl : _ = List.map (fun x : List Value => x.toArray) [_]) | exact (rfl : _ = List.map (fun x : List Value => x.toArray) [_, _]) | exact (rfl : _ = List.map (fun x : List Value => x.toArray) [_, _, _]) | exact (rfl : _ = List.map (fun x : List Value => x.toArray) [_, _, _, _])); (intro l hl <;> simp only [List.mem_cons, List.not_mem_nil, or_false] at hl <;> rcases hl with rfl | rfl | rfl | rfl <;> rfl); exact rfl; clear hp hq; (try clear w1); intro g w1 hp hq; simp only [zp, zq, z0, z1])
          ((with_reducible apply sd_l); exact zo rfl)
          (first
      | ((with_reducible apply sd_append_nil hq); (repeat (first | exact List.Sublist.refl _ | apply List.Sublist.cons)); exact rfl; infer_instance; infer_instance; exact rfl; decide; exact (rfl : _ = Value.slice none 0 0); exact zy rfl; infer_instance; exact rfl; exact rfl; decide; (unfold maxLen; decide); decide; clear hp hq; (try clear w1); intro g cap junk w1 hl1 hl2 hl3 hp hq; simp only [zp, zq, z0, z1])
      | ((with_reducible apply sd_append hq); exact rfl; infer_instance; infer_instance; exact rfl; decide; exact zy rfl; (first | exact List.Perm.refl _ | exact List.perm_middle (l₁ := [_]) | exact List.perm_middle (l₁ := [_, _]) | exact List.perm_middle (l₁ := [_, _, _]) | exact List.perm_middle (l₁ := [_, _, _, _]) | exact List.perm_middle (l₁ := [_, _, _, _, _])); (repeat (first | exact List.Sublist.refl _ | apply List.Sublist.cons)); (first | exact pcs_length _ | (simp only [List.length_map, Nat.mul_one])); assumption; assumption; assumption; exact zy rfl; infer_instance; exact rfl; exact rfl; decide; (unfold maxLen; omega); omega; clear hp hq; (try clear w1); intro g cap junk w1 hl1 hl2 hl3 hp hq; (try dsimp only [List.cons_append, List.nil_append] at hq); simp only [zp, zq, z0, z1]))
          ((with_reducible apply sd_q); exact zo rfl)
          ((with_reducible apply sd_assign hp); exact zs rfl; simp only [zp, zq, z0, z1])
          (with_reducible apply sd_nil)
          clear hp; have hp := hq; clear hq
          go_wp2
          go_roundw
          case rel =>
            have e1 : pcs (ms ++ [q.add b]) = pcs ms ++ [Value.int .i64 (q.add b).x, .int .i64 (q.add b).y, .int .i64 (q.add b).z] := by rw [pcs_append]; rfl
            have e2 : (ms ++ [q.add b]).length = ms.length + 1 := by simp
            refine ⟨k + 1, by omega, by go_num, ?_, ?_⟩
            · rw [HT.out]; intro q' hq'
              rcases List.mem_append.1 hq' with h | h
              · exact HSM.out q' h
              · simp at h; subst h; exact HS.out
            · unfold MvL
              rw [HT.out, List.map_append, HMS.out, List.map_cons, List.map_nil, e1, e2]
              exact .inr ⟨_, _, _, rfl, by assumption, by assumption, by assumption, hp.sub (by repeat (first | exact List.nil_sublist _ | exact List.Sublist.refl _ | apply List.Sublist.cons_cons | apply List.Sublist.cons))⟩
          case measure => simp [intOf]; omega
      · rw [decide_eq_false hs] at hsq
        have HQ := Lib.hid hsq
        clear hsq hs
        obtain ⟨H, hp⟩ : ∃ H, Hp [] w H _ := by
          rcases hI with ⟨_, _, hp⟩ | ⟨_, _, _, _, _, _, _, hp⟩
          · exact ⟨_, hp⟩
          · exact ⟨_, hp⟩
        clear hI
        go_wp2_with (first
          | ((with_reducible apply sx_box hp); exact za rfl; exact rfl; clear hp; (try clear w1); intro g w1 hp; simp only [zp, zq, z0, z1])
          | ((with_reducible apply sx_alloc hp); infer_instance; exact rfl; clear hp; (try clear w1); intro g w1 hp; simp only [zp, zq, z0, z1])
          | ((with_reducible apply sx_load_agg hp); exact zt rfl; infer_instance; infer_instance; (first | exact zl rfl | exact LB_le (by omega)); (first | (with_reducible exact LB_set (by omega)) | (simp only [n0, Nat.reduceAdd, n1, n2, n3, n4, n5, n6, n7, n8, n9]; try rfl)); simp only [zp, zq, z0, z1])
          | ((with_reducible apply sx_store hp); exact zt rfl; exact za rfl; exact rfl; (first | exact AggTy.size | exact OneTy.size); exact rfl; infer_instance; (first | (with_reducible exact LB_set (by omega)) | (simp only [n0, Nat.reduceAdd, n1, n2, n3, n4, n5, n6, n7, n8, n9]; try rfl)); (first | exact zl rfl | exact LB_le (by omega)); exact rfl; infer_instance; clear hp; (try clear w1); intro w1 hp)
          | ((with_reducible apply sx_indexAddr); exact zx rfl; exact zk rfl; infer_instance; (first | exact AggTy.size | exact OneTy.size); omega; omega; ((try simp only [m0, Int.reduceToNat, m1, m2, Nat.reduceMul, Nat.reduceAdd, m3, m4, m5, n0]); exact rfl); simp only [zp, zq, z0, z1])
          | ((with_reducible apply sx_load_far hp); exact zt rfl; assumption; infer_instance; assumption; (first | exact zl rfl | omega); simp only [zp, zq, z0, z1])
          | ((with_reducible apply sx_buildSlice hp); infer_instance; (first | exact AggTy.size | exact OneTy.size); infer_instance; exact zl rfl; decide; (first | exact (rfl : _ = numbered 0 [_]) | exact (rfl : _ = numbered 0 [_, _]) | exact (rfl : _ = numbered 0 [_, _, _]) | exact (rfl : _ = numbered 0 [_, _, _, _])); exact rfl; (first | exact (rfl : _ = List.map (fun x : List Value => x.toArray) [_]) | exact (rfl : _ = List.map (fun x : List Value => x.toArray) [_, _]) | exact (rfl : _ = List.map (fun x : List Value => x.toArray) [_, _, _]) | exact (rfl : _ = List.map (fun x : List Value => x.toArray) [_, _, _, _])); (intro l hl <;> simp only [List.mem_cons, List.not_mem_nil, or_false] at hl <;> rcases hl with rfl | rfl | rfl | rfl <;> rfl); exact rfl; clear hp; (try clear w1); intro g w1 hp; simp only [zp, zq, z0, z1])
          | ((with_reducible apply sx_append_nil hp); infer_instance; infer_instance; exact rfl; decide; exact (rfl : _ = Value.slice none 0 0); exact zy rfl; infer_instance; exact rfl; exact rfl; decide; (unfold maxLen; decide); decide; clear hp; (try clear w1); intro g cap junk w1 hl1 hl2 hl3 hp; simp only [zp, zq, z0, z1])
          | ((with_reducible apply sx_append hp); infer_instance; infer_instance; exact rfl; decide; exact zy rfl; (first | exact List.Perm.refl _ | exact List.perm_middle (l₁ := [_]) | exact List.perm_middle (l₁ := [_, _]) | exact List.perm_middle (l₁ := [_, _, _]) | exact List.perm_middle (l₁ := [_, _, _, _]) | exact List.perm_middle (l₁ := [_, _, _, _, _])); (first | exact pcs_length _ | (simp only [List.length_map, Nat.mul_one])); assumption; assumption; assumption; exact zy rfl; infer_instance; exact rfl; exact rfl; decide; (unfold maxLen; omega); omega; clear hp; (try clear w1); intro g cap junk w1 hl1 hl2 hl3 hp; (try dsimp only [List.cons_append, List.nil_append] at hp); simp only [zp, zq, z0, z1])
          | ((with_reducible first | refine sx_call hp (HQ.out _) ?_ | refine sx_call hp (awake7 _) ?_); clear hp; (try clear w1); intro w1 hp)
          | ((with_reducible apply sx_strip); exact rfl)
          | ((with_reducible apply sx_unwanted); exact rfl; simp only [zp, zq, z0, z1]))
        exact bodyPost_ret (results_one rfl rfl) rfl ⟨rfl, hp.keep⟩
    · obtain rfl : k = n := by omega
      have hall : ∀ q ∈ ps, q.small := by
        have := HSM.out
        rwa [Hn.out, List.take_length] at this
      replace Hs := Lib.hid (Hs.out hall)
      replace Hs' := Lib.hid (Hs'.out hall)
      replace Hi := Lib.hid (Hi.out hall)
      replace Hi' := Lib.hid (Hi'.out hall)
      replace Hv := Lib.hid (Hv.out hall)
      replace Hv' := Lib.hid (Hv'.out hall)
      clear hall HSM
      have hl : k = ((ps.take k).map (·.add b)).length := by rw [List.length_map, List.length_take, ← Hn.out]; omega
      have hpk : ps.take k = ps := by rw [Hn.out, List.take_length]
      rw [hpk] at hl hI
      rcases hI with ⟨hm0, rfl, hp⟩ | ⟨ga, ca, ja, rfl, hja, hca, hcam, hp⟩
      · rw [hm0] at hl; simp at hl; omega
      · generalize ps.map (·.add b) = ms at *
        have hml : ms.length ≤ 100 := by omega
        clear hl hpk hk1
        by_cases hsp0 : sp = []
        · subst hsp0
          go_wp2_with (first
          | ((with_reducible apply sx_box hp); exact za rfl; exact rfl; clear hp; (try clear w1); intro g w1 hp; simp only [zp, zq, z0, z1])
          | ((with_reducible apply sx_alloc hp); infer_instance; exact rfl; clear hp; (try clear w1); intro g w1 hp; simp only [zp, zq, z0, z1])
          | ((with_reducible apply sx_load_agg hp); exact zt rfl; infer_instance; infer_instance; (first | exact zl rfl | exact LB_le (by omega)); (first | (with_reducible exact LB_set (by omega)) | (simp only [n0, Nat.reduceAdd, n1, n2, n3, n4, n5, n6, n7, n8, n9]; try rfl)); simp only [zp, zq, z0, z1])
          | ((with_reducible apply sx_store hp); exact zt rfl; exact za rfl; exact rfl; (first | exact AggTy.size | exact OneTy.size); exact rfl; infer_instance; (first | (with_reducible exact LB_set (by omega)) | (simp only [n0, Nat.reduceAdd, n1, n2, n3, n4, n5, n6, n7, n8, n9]; try rfl)); (first | exact zl rfl | exact LB_le (by omega)); exact rfl; infer_instance; clear hp; (try clear w1); intro w1 hp)
          | ((with_reducible apply sx_indexAddr); exact zx rfl; exact zk rfl; infer_instance; (first | exact AggTy.size | exact OneTy.size); omega; omega; ((try simp only [m0, Int.reduceToNat, m1, m2, Nat.reduceMul, Nat.reduceAdd, m3, m4, m5, n0]); exact rfl); simp only [zp, zq, z0, z1])
          | ((with_reducible apply sx_load_far hp); exact zt rfl; assumption; infer_instance; assumption; (first | exact zl rfl | omega); simp only [zp, zq, z0, z1])
          | ((with_reducible apply sx_buildSlice hp); infer_instance; (first | exact AggTy.size | exact OneTy.size); infer_instance; exact zl rfl; decide; (first | exact (rfl : _ = numbered 0 [_]) | exact (rfl : _ = numbered 0 [_, _]) | exact (rfl : _ = numbered 0 [_, _, _]) | exact (rfl : _ = numbered 0 [_, _, _, _])); exact rfl; (first | exact (rfl : _ = List.map (fun x : List Value => x.toArray) [_]) | exact (rfl : _ = List.map (fun x : List Value => x.toArray) [_, _]) | exact (rfl : _ = List.map (fun x : List Value => x.toArray) [_, _, _]) | exact (rfl : _ = List.map (fun x : List Value => x.toArray) [_, _, _, _])); (intro l hl <;> simp only [List.mem_cons, List.not_mem_nil, or_false] at hl <;> rcases hl with rfl | rfl | rfl | rfl <;> rfl); exact rfl; clear hp; (try clear w1); intro g w1 hp; simp only [zp, zq, z0, z1])
          | ((with_reducible apply sx_append_nil hp); infer_instance; infer_instance; exact rfl; decide; exact (rfl : _ = Value.slice none 0 0); exact zy rfl; infer_instance; exact rfl; exact rfl; decide; (unfold maxLen; decide); decide; clear hp; (try clear w1); intro g cap junk w1 hl1 hl2 hl3 hp; simp only [zp, zq, z0, z1])
          | ((with_reducible apply sx_append hp); infer_instance; infer_instance; exact rfl; decide; exact zy rfl; (first | exact List.Perm.refl _ | exact List.perm_middle (l₁ := [_]) | exact List.perm_middle (l₁ := [_, _]) | exact List.perm_middle (l₁ := [_, _, _]) | exact List.perm_middle (l₁ := [_, _, _, _]) | exact List.perm_middle (l₁ := [_, _, _, _, _])); (first | exact pcs_length _ | (simp only [List.length_map, Nat.mul_one])); assumption; assumption; assumption; exact zy rfl; infer_instance; exact rfl; exact rfl; decide; (unfold maxLen; omega); omega; clear hp; (try clear w1); intro g cap junk w1 hl1 hl2 hl3 hp; (try dsimp only [List.cons_append, List.nil_append] at hp); simp only [zp, zq, z0, z1])
          | ((with_reducible first | refine sx_call hp (Hmp.out _) ?_ | refine sx_call hp (awake7 _) ?_); clear hp; (try clear w1); intro w1 hp)
          | ((with_reducible refine Calls.mono (Hs.out _ hp.keep) ?_); rintro e' w2 ⟨sv, rfl, hk2, hI2⟩; obtain ⟨b', c', rfl⟩ := hI2.empty; have hp2 := hp.call hk2; clear hp; have hp := hp2; clear hp2)
          | ((with_reducible refine Calls.mono (Hs'.out _ _ (PSl.of hp.blk rfl)) ?_); rintro e' w2 ⟨sv, rfl, hk2, hI2⟩; obtain ⟨b', c', rfl⟩ := hI2.empty; have hp2 := hp.call hk2; clear hp; have hp := hp2; clear hp2)
          | ((with_reducible refine sx_call hp (Hi.out _ hp.keep) ?_); clear hp; (try clear w1); intro w1 hp)
          | ((with_reducible refine sx_call hp (Hi'.out _ _ (PSl.of hp.blk rfl)) ?_); clear hp; (try clear w1); intro w1 hp)
          | ((with_reducible refine sx_call hp (Hv.out _ hp.keep) ?_); clear hp; (try clear w1); intro w1 hp)
          | ((with_reducible refine sx_call hp (Hv'.out _ _ (PSl.of hp.blk rfl)) ?_); clear hp; (try clear w1); intro w1 hp)
          | ((with_reducible refine sx_call hp (same_eq [] (by unfold maxLen; simp) _ _ _ NSl.zero NSl.zero) ?_); clear hp; (try clear w1); intro w1 hp)
          | ((with_reducible apply sx_strip); exact rfl)
          | ((with_reducible apply sx_unwanted); exact rfl; simp only [zp, zq, z0, z1]))
          exact bodyPost_ret (results_one rfl rfl) rfl ⟨rfl, hp.keep⟩
        · skip
          go_wp2_with (first
          | ((with_reducible apply sx_box hp); exact za rfl; exact rfl; clear hp; (try clear w1); intro g w1 hp; simp only [zp, zq, z0, z1])
          | ((with_reducible apply sx_alloc hp); infer_instance; exact rfl; clear hp; (try clear w1); intro g w1 hp; simp only [zp, zq, z0, z1])
          | ((with_reducible apply sx_load_agg hp); exact zt rfl; infer_instance; infer_instance; (first | exact zl rfl | exact LB_le (by omega)); (first | (with_reducible exact LB_set (by omega)) | (simp only [n0, Nat.reduceAdd, n1, n2, n3, n4, n5, n6, n7, n8, n9]; try rfl)); simp only [zp, zq, z0, z1])
          | ((with_reducible apply sx_store hp); exact zt rfl; exact za rfl; exact rfl; (first | exact AggTy.size | exact OneTy.size); exact rfl; infer_instance; (first | (with_reducible exact LB_set (by omega)) | (simp only [n0, Nat.reduceAdd, n1, n2, n3, n4, n5, n6, n7, n8, n9]; try rfl)); (first | exact zl rfl | exact LB_le (by omega)); exact rfl; infer_instance; clear hp; (try clear w1); intro w1 hp)
          | ((with_reducible apply sx_indexAddr); exact zx rfl; exact zk rfl; infer_instance; (first | exact AggTy.size | exact OneTy.size); omega; omega; ((try simp only [m0, Int.reduceToNat, m1, m2, Nat.reduceMul, Nat.reduceAdd, m3, m4, m5, n0]); exact rfl); simp only [zp, zq, z0, z1])
          | ((with_reducible apply sx_load_far hp); exact zt rfl; assumption; infer_instance; assumption; (first | exact zl rfl | omega); simp only [zp, zq, z0, z1])
          | ((with_reducible apply sx_buildSlice hp); infer_instance; (first | exact AggTy.size | exact OneTy.size); infer_instance; exact zl rfl; decide; (first | exact (rfl : _ = numbered 0 [_]) | exact (rfl : _ = numbered 0 [_, _]) | exact (rfl : _ = numbered 0 [_, _, _]) | exact (rfl : _ = numbered 0 [_, _, _, _])); exact rfl; (first | exact (rfl : _ = List.map (fun x : List Value => x.toArray) [_]) | exact (rfl : _ = List.map (fun x : List Value => x.toArray) [_, _]) | exact (rfl : _ = List.map (fun x : List Value => x.toArray) [_, _, _]) | exact (rfl : _ = List.map (fun x : List Value => x.toArray) [_, _, _, _])); (intro l hl <;> simp only [List.mem_cons, List.not_mem_nil, or_false] at hl <;> rcases hl with rfl | rfl | rfl | rfl <;> rfl); exact rfl; clear hp; (try clear w1); intro g w1 hp; simp only [zp, zq, z0, z1])
          | ((with_reducible apply sx_append_nil hp); infer_instance; infer_instance; exact rfl; decide; exact (rfl : _ = Value.slice none 0 0); exact zy rfl; infer_instance; exact rfl; exact rfl; decide; (unfold maxLen; decide); decide; clear hp; (try clear w1); intro g cap junk w1 hl1 hl2 hl3 hp; simp only [zp, zq, z0, z1])
          | ((with_reducible apply sx_append hp); infer_instance; infer_instance; exact rfl; decide; exact zy rfl; (first | exact List.Perm.refl _ | exact List.perm_middle (l₁ := [_]) | exact List.perm_middle (l₁ := [_, _]) | exact List.perm_middle (l₁ := [_, _, _]) | exact List.perm_middle (l₁ := [_, _, _, _]) | exact List.perm_middle (l₁ := [_, _, _, _, _])); (first | exact pcs_length _ | (simp only [List.length_map, Nat.mul_one])); assumption; assumption; assumption; exact zy rfl; infer_instance; exact rfl; exact rfl; decide; (unfold maxLen; omega); omega; clear hp; (try clear w1); intro g cap junk w1 hl1 hl2 hl3 hp; (try dsimp only [List.cons_append, List.nil_append] at hp); simp only [zp, zq, z0, z1])
          | ((with_reducible first | refine sx_call hp (Hmp.out _) ?_ | refine sx_call hp (awake7 _) ?_); clear hp; (try clear w1); intro w1 hp)
          | ((with_reducible refine Calls.mono (Hs.out _ hp.keep) ?_); rintro e' w2 ⟨sv, rfl, hk2, hI2⟩; rcases hp.ofI hk2 hI2 with ⟨_, hnil, _⟩ | ⟨g, co, jo, rfl, hp⟩; (exact absurd hnil hsp0))
          | ((with_reducible refine Calls.mono (Hs'.out _ _ (PSl.of hp.blk rfl)) ?_); rintro e' w2 ⟨sv, rfl, hk2, hI2⟩; rcases hp.ofI hk2 hI2 with ⟨_, hnil, _⟩ | ⟨g, co, jo, rfl, hp⟩; (exact absurd hnil hsp0))
          | ((with_reducible refine sx_call hp (Hi.out _ hp.keep) ?_); clear hp; (try clear w1); intro w1 hp)
          | ((with_reducible refine sx_call hp (Hi'.out _ _ (PSl.of hp.blk rfl)) ?_); clear hp; (try clear w1); intro w1 hp)
          | ((with_reducible refine sx_call hp (Hv.out _ hp.keep) ?_); clear hp; (try clear w1); intro w1 hp)
          | ((with_reducible refine sx_call hp (Hv'.out _ _ (PSl.of hp.blk rfl)) ?_); clear hp; (try clear w1); intro w1 hp)
          | ((with_reducible refine sx_call hp (same_eq sp hsp _ _ _ (NSl.of hp.blk) (NSl.of hp.blk)) ?_); clear hp; (try clear w1); intro w1 hp)
          | ((with_reducible apply sx_strip); exact rfl)
          | ((with_reducible apply sx_unwanted); exact rfl; simp only [zp, zq, z0, z1]))
          exact bodyPost_ret (results_one rfl rfl) rfl ⟨rfl, hp.keep⟩
theorem volumeO_any (ps : List P3) (hlen : ps.length ≤ maxLen) (w : World) (base : Option Addr) (n cap : Nat) (hn : n = ps.length) (h : PSl w (.slice base n cap) ps) : Calls Try.prog 22 #[.slice base n cap] w (Ret (.tuple #[W (volO ps).1, .int .i64 (volO ps).2]) w) := by
  unfold volO
  by_cases hf : fineb ps = true
  · rw [if_neg (by rw [hf]; simp)]
    by_cases h4 : ps.length = 4
    · rw [if_pos h4]
      have h' := h
      rcases h with ⟨h0, rfl⟩ | ⟨g0, off, cap', bc, t, z, he, hb, hv⟩
      · cases h4
      · cases he
        have hroom := pcs_room hv
        have hat := fun (k : Nat) (q : P3) (hk : ps[k]? = some q) => pcs_at hv hk
        obtain ⟨a, rfl⟩ | ⟨a, b, rfl⟩ | ⟨a, b, c, rfl⟩ | ⟨a, b, c, d, rfl⟩ := one_to_four (ps := ps) (by omega) (by omega)
        · cases h4
        · cases h4
        · cases h4
        · exact volume_yes a b c d hf w g0 off cap bc t hb (by simpa using hroom) (hat 0 a rfl) (hat 1 b rfl) (hat 2 c rfl) (hat 3 d rfl) (Lib.hid fun w1 hk => by
            have := fine_any hlen w1 (h'.keep hk)
            rwa [hf] at this)
    · rw [if_neg h4]
      exact volume_no ps 8 true hf (.inr ⟨rfl, rfl, h4⟩) hlen w base n cap hn h
  · have hf' : fineb ps = false := by simpa using hf
    rw [if_pos hf']
    exact volume_no ps 7 false hf' (.inl ⟨rfl, rfl⟩) hlen w base n cap hn h
theorem PSl.shape {w : World} {v : Value} {ps : List P3} (h : PSl w v ps) : ∃ base cap, v = .slice base ps.length cap := by
  rcases h with ⟨rfl, rfl⟩ | ⟨g, off, cap, _, _, _, rfl, _⟩
  · exact ⟨none, 0, rfl⟩
  · exact ⟨_, cap, rfl⟩
theorem moved_law {v : Value} {w : World} (ps : List P3) (hlen : ps.length ≤ maxLen) (_ : ∀ q ∈ ps, q.i64) (h : PSl w v ps) (p : P3) (_ : p.i64) (b : P3) (_ : b.i64) : Calls Try.prog 9 #[v, PV p, PV b] w (Ret (.bool true) w) := by
  have h' := h
  obtain ⟨base, cap, rfl⟩ := h.shape
  by_cases h100 : (100 : Int) < ps.length
  · exact moved_long base _ cap h100 p b w
  · by_cases hp : p.small
    · by_cases hb : b.small
      · have Sp := fun w => small_any p w
        have Sb := fun w => small_any b w
        rw [decide_eq_true hp] at Sp
        rw [decide_eq_true hb] at Sb
        obtain ⟨hpm, hpm', hpi⟩ := small_may hp hb
        have hfine : (∀ q ∈ ps, q.small) → fineb ps = true ∧ fineb (ps.map (·.add b)) = true := fun hall => by
          unfold fineb
          simp only [List.all_map, List.all_eq_true, decide_eq_true_eq, Function.comp]
          exact ⟨fun q hq => (small_may (hall q hq) hb).1, fun q hq => (small_may (hall q hq) hb).2.1⟩
        have hlen' : (ps.map (·.add b)).length ≤ maxLen := by rw [List.length_map]; exact hlen
        have hs4 := spread_len ps
        have Hs : ∀ w1, Keep [] w w1 → Calls Try.prog 14 #[.slice base ps.length cap] w1 (RetI (spreadO ps).1 (fun sv => .tuple #[sv, .int .i64 (spreadO ps).2]) w1) := fun w1 hk => spread_any hlen w1 (h.keep hk)
        have Hs' : (∀ q ∈ ps, q.small) → ∀ w1 v1, PSl w1 v1 (ps.map (·.add b)) → Calls Try.prog 14 #[v1] w1 (RetI (spreadO ps).1 (fun sv => .tuple #[sv, .int .i64 (spreadO ps).2]) w1) := fun hall w1 v1 h1 => by
          have := spread_any hlen' w1 h1
          rwa [spreadO_moved ((hfine hall).2.trans (hfine hall).1.symm)] at this
        have Hi : ∀ w1, Keep [] w w1 → Calls Try.prog 17 #[.slice base ps.length cap, PV p] w1 (Ret (.tuple #[.bool (insideO ps p).1, .int .i64 (insideO ps p).2]) w1) := fun w1 hk => inside_any ps p _ hlen w1 (h.keep hk)
        have Hi' : (∀ q ∈ ps, q.small) → ∀ w1 v1, PSl w1 v1 (ps.map (·.add b)) → Calls Try.prog 17 #[v1, PV (p.add b)] w1 (Ret (.tuple #[.bool (insideO ps p).1, .int .i64 (insideO ps p).2]) w1) := fun hall w1 v1 h1 => by
          have := inside_any _ (p.add b) v1 hlen' w1 h1
          rwa [insideO_moved ((hfine hall).2.trans (hfine hall).1.symm) hpm hpm'] at this
        have Hv : ∀ w1, Keep [] w w1 → Calls Try.prog 22 #[.slice base ps.length cap] w1 (Ret (.tuple #[W (volO ps).1, .int .i64 (volO ps).2]) w1) := fun w1 hk => volumeO_any ps hlen w1 base _ cap rfl (h.keep hk)
        have Hv' : (∀ q ∈ ps, q.small) → ∀ w1 v1, PSl w1 v1 (ps.map (·.add b)) → Calls Try.prog 22 #[v1] w1 (Ret (.tuple #[W (volO ps).1, .int .i64 (volO ps).2]) w1) := fun hall w1 v1 h1 => by
          obtain ⟨base', cap', rfl⟩ := h1.shape
          have := volumeO_any _ hlen' w1 base' _ cap' rfl h1
          rwa [volO_moved ((hfine hall).2.trans (hfine hall).1.symm)] at this
        by_cases h0 : ps = []
        · have hall : ∀ q ∈ ps, q.small := by rw [h0]; simp
          refine moved_empty p b ps (Lib.hid h0) (Lib.hid Sp) (Lib.hid Sb) (Lib.hid (moved_any p b hpi)) _ ?_ _ _ _ _ _ base _ (by rw [h0]; rfl) cap w (Lib.hid Hs) (Lib.hid (Hs' hall)) (Lib.hid Hi) (Lib.hid (Hi' hall)) (Lib.hid Hv) (Lib.hid (Hv' hall))
          rw [h0]; rfl
        · rcases h' with ⟨_, h0'⟩ | ⟨g0, off, cap', bc, t, z, he, hbk, hv⟩
          · exact absurd h0' h0
          · cases he
            exact moved_core ps _ (Lib.hid rfl) (List.length_pos_iff.2 h0) h100 p b (Lib.hid Sp) (Lib.hid Sb) (Lib.hid fun q hq => moved_any q b (small_may hq hb).2.2) (Lib.hid (moved_any p b hpi)) _ (by unfold maxLen; omega) _ _ _ _ _ g0 off _ rfl cap w bc t hbk (Lib.hid hv) (Lib.hid fun _ => Hs) (Lib.hid Hs') (Lib.hid fun _ => Hi) (Lib.hid Hi') (Lib.hid fun _ => Hv) (Lib.hid Hv')
      · have Sp := fun w => small_any p w
        have Sb := fun w => small_any b w
        rw [decide_eq_true hp] at Sp
        rw [decide_eq_false hb] at Sb
        exact moved_great base _ cap h100 p b _ _ (.inr ⟨rfl, rfl⟩) (Lib.hid Sp) (Lib.hid Sb) w
    · have Sp := fun w => small_any p w
      rw [decide_eq_false hp] at Sp
      exact moved_great base _ cap h100 p b _ _ (.inl rfl) (Lib.hid Sp) (Lib.hid (small_any b)) w
end Go.Proofs.Ythnpmmpcejfllaa
